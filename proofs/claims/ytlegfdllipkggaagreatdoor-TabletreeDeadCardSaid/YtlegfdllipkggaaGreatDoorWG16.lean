/-
  texts Row15 Digs Each OwnBl: parts of the proof; conditions stand with each theorem.
-/
import Derived.Test.YtlegfdllipkggaaGreatDoorWG14
import Derived.Test.YtlegfdllipkggaaGreatDoorWG12
import Derived.Test.YtlegfdllipkggaaGreatDoorWG8
import Derived.Test.YtlegfdllipkggaaGreatDoorWWalk
import Derived.Test.YtlegfdllipkggaaGreatDoorWG2
import Derived.Test.YtlegfdllipkggaaGreatDoorWG5
namespace Go.Proofs.YtlegfdllipkggaaGreatDoor
open Lib(hid)
open Go.RowKit Go.Maps
set_option maxRecDepth 100000
set_option linter.unusedVariables false
set_option linter.unusedSimpArgs false
def rowT (t:TabL)(row:Int):PT × Int:=if rightTab t=true∧0≤row∧row < (t.rows.length:Int) then madeP t.st.toNat t.hood (fun l=>if (matchT t row (intsN l)).2=true then (1:Int) else 0) else (PT.zero,2)
theorem rowT_no {t:TabL}{row:Int}(h:¬ (rightTab t=true∧0≤row∧row < (t.rows.length:Int))):rowT t row=(PT.zero,2):=if_neg h
theorem rowT_yes {t:TabL}{row:Int}(h:rightTab t=true)(h0:0≤row)(h1:row < (t.rows.length:Int)){q:Nat}(hq:t.st=(q:Int)):rowT t row=madeP q t.hood (fun l=>if (matchT t row (intsN l)).2=true then (1:Int) else 0):=by
 unfold rowT;rw[if_pos ⟨h,h0,h1⟩,hq,Int.toNat_natCast]
set_option maxHeartbeats 16000000 in
theorem row1_any (hA:Option Addr)(hc:Nat)(vA:Option Addr)(vc:Nat)(rA:Option Addr)(rc:Nat)(t:TabH)(row:Int)(gt gr:Nat)(l:List Nat)(A:Option Addr)(c q:Nat)(w:World)(hT:TabR w hA vA rA t)(hG:GMat w)(hst:t.st=(q:Int))(hi:Ints w A (intsN l))(hl:l.length=t.hood.length)(hq:∀ s ∈ l,s < q)(hb:Blk w gt 26 #[.int .i64 t.st,.int .i64 t.sym,.slice hA t.hood.length hc,.slice vA t.vs.length vc,.slice rA t.rs.length rc])(hgr:Blk w gr 3 #[.int .i64 row])(hr:rightTab t.tab=true)(hs:SymOk t.sym) :
  Calls Tryz.prog 29 #[.slice A t.hood.length c,.pointer (some ⟨gt,0,none⟩),.pointer (some ⟨gr,0,none⟩)] w fun e w'=>e=.returned (.int .i64 (((fun l=>if (matchT t.tab row (intsN l)).2=true then (1:Int) else 0) l)))∧Below w.heap.size w w':=by
 have hcall:=match_any hA hc vA vc rA rc t row A c (intsN l) w hT hG hi hs.c;rw[intsN_len,hl] at hcall;dsimp only;obtain⟨mr,hmr⟩:∃ r,r=matchT t.tab row (intsN l):=⟨_,rfl⟩
 rw[← hmr] at hcall ⊢;obtain⟨m1,m2⟩:=mr;dsimp only at hcall ⊢;clear hmr;obtain⟨st,sym,hood,vs,rs⟩:=t;unfold tabV at hcall;dsimp only at hcall hb hl hst ⊢;have HCALL:=hid hcall;have HB:=hid hb;have x0:=HB.out.cell_ 0 (.int .i64 st) rfl;have x1:=HB.out.cell_ 1 (.int .i64 sym) rfl;have x2:=HB.out.cell_ 2 (.slice hA hood.length hc) rfl;have x3:=HB.out.cell_ 3 (.slice vA vs.length vc) rfl;have x4:=HB.out.cell_ 4 (.slice rA rs.length rc) rfl;have y0:=hgr.cell_ 0 (.int .i64 row) rfl;clear hgr;clear hT hG hi hq hb hr hs hcall hl hst;cases m2 with
 | true=>
  go_enter Tryz.func29,Tryz.ntmps29;go_wp2_with (go_at_call 30;refine HCALL.out.mono ?_;rintro e w1 ⟨rfl,hb1⟩;refine Hid.out ?_);refine hid ?_;go_wp2;go_ret;exact⟨rfl,hb1⟩
 | false=>
  go_enter Tryz.func29,Tryz.ntmps29;go_wp2_with (go_at_call 30;refine HCALL.out.mono ?_;rintro e w1 ⟨rfl,hb1⟩;refine Hid.out ?_);refine hid ?_;go_wp2;go_ret;exact⟨rfl,hb1⟩
set_option maxHeartbeats 16000000 in
theorem row15_any (hA:Option Addr)(hc:Nat)(vA:Option Addr)(vc:Nat)(rA:Option Addr)(rc:Nat)(t:TabH)(row:Int)(w:World)(hT:TabR w hA vA rA t)(hG:GMat w)(hTB:TabB w.heap.size w)(hs:SymOk t.sym) :
  Calls Tryz.prog 10 #[tabV hA hc vA vc rA rc t,.int .i64 row] w (RetAE (rowT t.tab row) w):=by
 obtain⟨w0,hw0⟩:∃ w0,w0=((w.alloc (.cells #[.int .i64 t.st,.int .i64 t.sym,.slice hA t.hood.length hc,.slice vA t.vs.length vc,.slice rA t.rs.length rc] 26)).alloc (.cells #[.int .i64 row] 3)).alloc (.cells #[.int .i64 0,.slice none 0 0,.slice none 0 0] 31):=⟨_,rfl⟩
 have hb0:Below w.heap.size w w0:=by rw[hw0];exact ((below_new _ _).alloc (by simp) _).alloc (by first | (simp;done) | (simp;omega)) _
 have p0:Blk w0 w.heap.size 26 #[.int .i64 t.st,.int .i64 t.sym,.slice hA t.hood.length hc,.slice vA t.vs.length vc,.slice rA t.rs.length rc]:=by rw[hw0];exact ((Blk.new w _ _).alloc _).alloc _
 have r0:Blk w0 (w.heap.size+1) 3 #[.int .i64 row]:=by rw[hw0];refine Blk.alloc ?_ _;have:=Blk.new (w.alloc (.cells #[.int .i64 t.st,.int .i64 t.sym,.slice hA t.hood.length hc,.slice vA t.vs.length vc,.slice rA t.rs.length rc] 26)) 3 #[.int .i64 row];simpa using this
 have HR0:=hid r0;have q0:Blk w0 (w.heap.size+1+1) 31 #[.int .i64 0,.slice none 0 0,.slice none 0 0]:=by rw[hw0];exact (by have:=Blk.new ((w.alloc (.cells #[.int .i64 t.st,.int .i64 t.sym,.slice hA t.hood.length hc,.slice vA t.vs.length vc,.slice rA t.rs.length rc] 26)).alloc (.cells #[.int .i64 row] 3)) 31 #[.int .i64 0,.slice none 0 0,.slice none 0 0];simpa using this)
 have hcr:=rright15_any hA hc vA vc rA rc t w0 (hT.ext hb0) (hG.ext hb0);have HTR:=hid (And.intro hT (And.intro hG (And.intro hTB hs)));have HB0:=hid hb0;have HP:=hid p0;have HQ:=hid q0;have HW0:=hid hw0;obtain⟨res,hres⟩:∃ r,r=rowT t.tab row:=⟨_,rfl⟩
 rw[← hres];have HRES:=hid hres;have hh9:t.hood.length≤9223372036854775807:=hT.hood.le;have hr9:t.rs.length≤9223372036854775807:=hT.rows.le;clear hb0 p0 q0 hw0 hT hG hTB hs hres;cases hr:rightTab t.tab with
 | false=>
  have HE:Hid (res=(PT.zero,2)):=hid (by rw[HRES.out];exact rowT_no (by rw[hr];simp));rw[hr] at hcr;obtain⟨st,sym,hood,vs,rs⟩:=t;unfold tabV at hcr ⊢;dsimp only at hcr HP HW0 hh9 hr9 ⊢;have HCR:=hid hcr;have x0:=HP.out.cell_ 0 (.int .i64 st) rfl;have x1:=HP.out.cell_ 1 (.int .i64 sym) rfl;have x2:=HP.out.cell_ 2 (.slice hA hood.length hc) rfl;have x3:=HP.out.cell_ 3 (.slice vA vs.length vc) rfl;have x4:=HP.out.cell_ 4 (.slice rA rs.length rc) rfl;have y0:=HR0.out.cell_ 0 (.int .i64 row) rfl;clear hr hcr HTR HRES;go_enter Tryz.func10,Tryz.ntmps10;go_upto_region 1 with fail
  rw[← HW0.out];go_wp2_with (go_at_call 24;refine HCR.out.mono ?_;rintro e w1 ⟨rfl,hb⟩;refine Hid.out ?_);refine hid ?_;have HQ1:=hid (HQ.out.below hb HQ.out.lt);have HB01:=hid hb;have HB1:=hid (HB0.out.trans (hb.mono HB0.out.size));have HP1:=hid (HP.out.below hb HP.out.lt);clear hb x0 x1 x2 x3 x4 y0;have x0:=HP1.out.cell_ 0 (.int .i64 st) rfl;have x1:=HP1.out.cell_ 1 (.int .i64 sym) rfl;have x2:=HP1.out.cell_ 2 (.slice hA hood.length hc) rfl;have x3:=HP1.out.cell_ 3 (.slice vA vs.length vc) rfl;have x4:=HP1.out.cell_ 4 (.slice rA rs.length rc) rfl;have HR1:=hid (HR0.out.below HB01.out HR0.out.lt);have y0:=HR1.out.cell_ 0 (.int .i64 row) rfl;have d0:=HQ1.out.cell_ 0 (.int .i64 0) rfl;have f0:=HQ1.out.frozen 0;have d1:=HQ1.out.cell_ 1 (.slice none 0 0) rfl;have f1:=HQ1.out.frozen 1;have d2:=HQ1.out.cell_ 2 (.slice none 0 0) rfl;have f2:=HQ1.out.frozen 2;go_wp2;have hq:Blk (((w1.setCell ⟨w.heap.size+1+1,0,none⟩ (.int .i64 0)).setCell ⟨w.heap.size+1+1,1,none⟩ (.slice none 0 0)).setCell ⟨w.heap.size+1+1,2,none⟩ (.slice none 0 0)) (w.heap.size+1+1) 31 #[.int .i64 0,.slice none 0 0,.slice none 0 0]:=(((HQ1.out.set_ 0 (.int .i64 0)).set_ 1 (.slice none 0 0)).set_ 2 (.slice none 0 0))
  rw[HE.out];exact bodyPost_ret (results_ct Tryz.results10 _ _ (w.heap.size+1+1) 31 #[.int .i64 0,.slice none 0 0,.slice none 0 0] (0,0) _ rfl hq Tryz.underlying31 rfl Tryz.sizeTree) rfl
   ⟨_,_,_,_,_,_,_,rfl,TreeAt.zero _,(((HB1.out.setCell (p:=⟨w.heap.size+1+1,0,none⟩) (by first | (simp;done) | (simp;omega)) _).setCell (p:=⟨w.heap.size+1+1,1,none⟩) (by first | (simp;done) | (simp;omega)) _).setCell (p:=⟨w.heap.size+1+1,2,none⟩) (by first | (simp;done) | (simp;omega)) _)⟩
 | true=>
  have hrl:t.tab.rows.length=t.rs.length:=by unfold TabH.tab;simp
  by_cases hr0:row < 0∨(t.rs.length:Int)≤row
  ·have HE:Hid (res=(PT.zero,2)):=hid (by rw[HRES.out];exact rowT_no (by rw[hrl];omega));rw[hr] at hcr;obtain⟨st,sym,hood,vs,rs⟩:=t;unfold tabV at hcr ⊢;dsimp only at hcr HP HW0 hh9 hr9 hr0 ⊢;have HCR:=hid hcr;have x0:=HP.out.cell_ 0 (.int .i64 st) rfl;have x1:=HP.out.cell_ 1 (.int .i64 sym) rfl;have x2:=HP.out.cell_ 2 (.slice hA hood.length hc) rfl;have x3:=HP.out.cell_ 3 (.slice vA vs.length vc) rfl;have x4:=HP.out.cell_ 4 (.slice rA rs.length rc) rfl;have y0:=HR0.out.cell_ 0 (.int .i64 row) rfl;clear hr hcr HTR HRES hrl;by_cases hneg:row < 0
   ·have dn:decide (row < 0)=true:=decide_eq_true hneg;clear hr0 hneg;go_enter Tryz.func10,Tryz.ntmps10;go_upto_region 1 with fail
    rw[← HW0.out];go_wp2_with (go_at_call 24;refine HCR.out.mono ?_;rintro e w1 ⟨rfl,hb⟩;refine Hid.out ?_);refine hid ?_;have HQ1:=hid (HQ.out.below hb HQ.out.lt);have HB01:=hid hb;have HB1:=hid (HB0.out.trans (hb.mono HB0.out.size));have HP1:=hid (HP.out.below hb HP.out.lt);clear hb x0 x1 x2 x3 x4 y0;have x0:=HP1.out.cell_ 0 (.int .i64 st) rfl;have x1:=HP1.out.cell_ 1 (.int .i64 sym) rfl;have x2:=HP1.out.cell_ 2 (.slice hA hood.length hc) rfl;have x3:=HP1.out.cell_ 3 (.slice vA vs.length vc) rfl;have x4:=HP1.out.cell_ 4 (.slice rA rs.length rc) rfl;have HR1:=hid (HR0.out.below HB01.out HR0.out.lt);have y0:=HR1.out.cell_ 0 (.int .i64 row) rfl;have d0:=HQ1.out.cell_ 0 (.int .i64 0) rfl;have f0:=HQ1.out.frozen 0;have d1:=HQ1.out.cell_ 1 (.slice none 0 0) rfl;have f1:=HQ1.out.frozen 1;have d2:=HQ1.out.cell_ 2 (.slice none 0 0) rfl;have f2:=HQ1.out.frozen 2;go_wp2;have hq:Blk (((w1.setCell ⟨w.heap.size+1+1,0,none⟩ (.int .i64 0)).setCell ⟨w.heap.size+1+1,1,none⟩ (.slice none 0 0)).setCell ⟨w.heap.size+1+1,2,none⟩ (.slice none 0 0)) (w.heap.size+1+1) 31 #[.int .i64 0,.slice none 0 0,.slice none 0 0]:=(((HQ1.out.set_ 0 (.int .i64 0)).set_ 1 (.slice none 0 0)).set_ 2 (.slice none 0 0))
    rw[HE.out];exact bodyPost_ret (results_ct Tryz.results10 _ _ (w.heap.size+1+1) 31 #[.int .i64 0,.slice none 0 0,.slice none 0 0] (0,0) _ rfl hq Tryz.underlying31 rfl Tryz.sizeTree) rfl
     ⟨_,_,_,_,_,_,_,rfl,TreeAt.zero _,(((HB1.out.setCell (p:=⟨w.heap.size+1+1,0,none⟩) (by first | (simp;done) | (simp;omega)) _).setCell (p:=⟨w.heap.size+1+1,1,none⟩) (by first | (simp;done) | (simp;omega)) _).setCell (p:=⟨w.heap.size+1+1,2,none⟩) (by first | (simp;done) | (simp;omega)) _)⟩
   ·have dn:decide (row < 0)=false:=decide_eq_false hneg;have dn2:decide ((rs.length:Int)≤row)=true:=decide_eq_true (by omega);clear hr0 hneg;go_enter Tryz.func10,Tryz.ntmps10;go_upto_region 1 with fail
    rw[← HW0.out];go_wp2_with (go_at_call 24;refine HCR.out.mono ?_;rintro e w1 ⟨rfl,hb⟩;refine Hid.out ?_);refine hid ?_;have HQ1:=hid (HQ.out.below hb HQ.out.lt);have HB01:=hid hb;have HB1:=hid (HB0.out.trans (hb.mono HB0.out.size));have HP1:=hid (HP.out.below hb HP.out.lt);clear hb x0 x1 x2 x3 x4 y0;have x0:=HP1.out.cell_ 0 (.int .i64 st) rfl;have x1:=HP1.out.cell_ 1 (.int .i64 sym) rfl;have x2:=HP1.out.cell_ 2 (.slice hA hood.length hc) rfl;have x3:=HP1.out.cell_ 3 (.slice vA vs.length vc) rfl;have x4:=HP1.out.cell_ 4 (.slice rA rs.length rc) rfl;have HR1:=hid (HR0.out.below HB01.out HR0.out.lt);have y0:=HR1.out.cell_ 0 (.int .i64 row) rfl;have d0:=HQ1.out.cell_ 0 (.int .i64 0) rfl;have f0:=HQ1.out.frozen 0;have d1:=HQ1.out.cell_ 1 (.slice none 0 0) rfl;have f1:=HQ1.out.frozen 1;have d2:=HQ1.out.cell_ 2 (.slice none 0 0) rfl;have f2:=HQ1.out.frozen 2;go_wp2;have hq:Blk (((w1.setCell ⟨w.heap.size+1+1,0,none⟩ (.int .i64 0)).setCell ⟨w.heap.size+1+1,1,none⟩ (.slice none 0 0)).setCell ⟨w.heap.size+1+1,2,none⟩ (.slice none 0 0)) (w.heap.size+1+1) 31 #[.int .i64 0,.slice none 0 0,.slice none 0 0]:=(((HQ1.out.set_ 0 (.int .i64 0)).set_ 1 (.slice none 0 0)).set_ 2 (.slice none 0 0))
    rw[HE.out];exact bodyPost_ret (results_ct Tryz.results10 _ _ (w.heap.size+1+1) 31 #[.int .i64 0,.slice none 0 0,.slice none 0 0] (0,0) _ rfl hq Tryz.underlying31 rfl Tryz.sizeTree) rfl
     ⟨_,_,_,_,_,_,_,rfl,TreeAt.zero _,(((HB1.out.setCell (p:=⟨w.heap.size+1+1,0,none⟩) (by first | (simp;done) | (simp;omega)) _).setCell (p:=⟨w.heap.size+1+1,1,none⟩) (by first | (simp;done) | (simp;omega)) _).setCell (p:=⟨w.heap.size+1+1,2,none⟩) (by first | (simp;done) | (simp;omega)) _)⟩
  have dn:decide (row < 0)=false:=decide_eq_false (by omega);have dn2:decide ((t.rs.length:Int)≤row)=false:=decide_eq_false (by omega);obtain⟨⟨hr1,hr2⟩,hr3,-⟩:=rightTab_parts hr;have hln:=hoodB_len hr3;obtain⟨q,hq⟩:∃ q:Nat,t.st=(q:Int):=⟨t.st.toNat,by have:t.tab.st=t.st:=rfl;omega⟩
  have hq1:t.tab.st=(q:Int):=hq;have HRT:=hid hr;have HE:Hid (res=madeP q t.hood ((fun l=>if (matchT t.tab row (intsN l)).2=true then (1:Int) else 0))):=hid (by rw[HRES.out];exact rowT_yes hr (by omega) (by rw[hrl];omega) hq1);have HM:Hid (∀ W,Below w0.heap.size w0 W→Calls Tryz.prog 25 #[tabV hA hc vA vc rA rc t,.func (.func 29) #[] #[.pointer (some ⟨w.heap.size,0,none⟩),.pointer (some ⟨w.heap.size+1,0,none⟩)]] W (RetMade (madeP q t.hood ((fun l=>if (matchT t.tab row (intsN l)).2=true then (1:Int) else 0))) t.hood hA hc W)):=hid (fun W hW=>by
   have hbW:=HB0.out.trans (hW.mono HB0.out.size);refine madeR_any hA hc vA vc rA rc t q (w.heap.size) (w.heap.size+1) ((fun l=>if (matchT t.tab row (intsN l)).2=true then (1:Int) else 0)) W hq (by omega) (by omega) hln.1 hln.2 (HTR.out.1.hood.ext hbW) ((HTR.out.2.2.1.on hbW).up hbW.size) ?_ ?_
   ·intro l hl hls;show 0≤(if (matchT t.tab row (intsN l)).2=true then (1:Int) else 0)∧(if (matchT t.tab row (intsN l)).2=true then (1:Int) else 0) < (q:Int)
    split <;> omega
   ·intro l A c W2 hl hls hi h2;exact row1_any hA hc vA vc rA rc t row (w.heap.size) (w.heap.size+1) l A c q W2 (HTR.out.1.ext (hbW.trans (h2.mono hbW.size))) (HTR.out.2.1.ext (hbW.trans (h2.mono hbW.size))) hq hi hl hls ((HP.out.below hW HP.out.lt).below h2 (Nat.lt_of_lt_of_le HP.out.lt hW.size)) ((HR0.out.below hW HR0.out.lt).below h2 (Nat.lt_of_lt_of_le HR0.out.lt hW.size)) HRT.out HTR.out.2.2.2)
  rw[← HE.out] at HM;rw[hr] at hcr;have HPS:Hid (Pts w hA t.hood):=hid HTR.out.1.hood;obtain⟨st,sym,hood,vs,rs⟩:=t;unfold tabV at hcr HM ⊢;dsimp only at hcr HM HP HW0 HPS hh9 hr9 dn2 ⊢;have HCR:=hid hcr;have x0:=HP.out.cell_ 0 (.int .i64 st) rfl;have x1:=HP.out.cell_ 1 (.int .i64 sym) rfl;have x2:=HP.out.cell_ 2 (.slice hA hood.length hc) rfl;have x3:=HP.out.cell_ 3 (.slice vA vs.length vc) rfl;have x4:=HP.out.cell_ 4 (.slice rA rs.length rc) rfl;have y0:=HR0.out.cell_ 0 (.int .i64 row) rfl;clear hr hcr hr0 hrl hr1 hr2 hr3 hln hq hq1 HTR HRES HE HRT;go_enter Tryz.func10,Tryz.ntmps10;go_upto_region 1 with fail
  rw[← HW0.out];go_wp2_with (go_at_call 24;refine HCR.out.mono ?_;rintro e w1 ⟨rfl,hb⟩;refine Hid.out ?_);refine hid ?_;have HQ1:=hid (HQ.out.below hb HQ.out.lt);have HB01:=hid hb;have HB1:=hid (HB0.out.trans (hb.mono HB0.out.size));have HP1:=hid (HP.out.below hb HP.out.lt);clear hb x0 x1 x2 x3 x4 y0;have x0:=HP1.out.cell_ 0 (.int .i64 st) rfl;have x1:=HP1.out.cell_ 1 (.int .i64 sym) rfl;have x2:=HP1.out.cell_ 2 (.slice hA hood.length hc) rfl;have x3:=HP1.out.cell_ 3 (.slice vA vs.length vc) rfl;have x4:=HP1.out.cell_ 4 (.slice rA rs.length rc) rfl;have HR1:=hid (HR0.out.below HB01.out HR0.out.lt);have y0:=HR1.out.cell_ 0 (.int .i64 row) rfl;have HMC:=hid (HM.out w1 HB01.out);go_wp2_with (go_at_call 25;refine HMC.out.mono ?_;rintro e w2 ⟨s0,A0,n0,c0',oA,n1,oc,rfl,hb2,hx⟩;refine Hid.out ?_);refine hid ?_;rcases hx with ⟨hz,rfl,rfl,rfl,rfl,rfl,rfl,rfl⟩ | ⟨os2,rfl,rfl,rfl,rfl,rfl,hps,hon,hns⟩
  ·have HZ:=hid hz;have HQ2:=hid (HQ1.out.below hb2 HQ1.out.lt);have HB2:=hid (HB1.out.trans (hb2.mono HB1.out.size));clear hz hb2 x0 x1 x2 x3 x4 y0;have d0:=HQ2.out.cell_ 0 (.int .i64 0) rfl;have f0:=HQ2.out.frozen 0;have d1:=HQ2.out.cell_ 1 (.slice none 0 0) rfl;have f1:=HQ2.out.frozen 1;have d2:=HQ2.out.cell_ 2 (.slice none 0 0) rfl;have f2:=HQ2.out.frozen 2;go_wp2;have hq:Blk (((w2.setCell ⟨w.heap.size+1+1,0,none⟩ (.int .i64 0)).setCell ⟨w.heap.size+1+1,1,none⟩ (.slice none 0 0)).setCell ⟨w.heap.size+1+1,2,none⟩ (.slice none 0 0)) (w.heap.size+1+1) 31 #[.int .i64 0,.slice none 0 0,.slice none 0 0]:=(((HQ2.out.set_ 0 (.int .i64 0)).set_ 1 (.slice none 0 0)).set_ 2 (.slice none 0 0))
   exact bodyPost_ret (results_ct Tryz.results10 _ _ (w.heap.size+1+1) 31 #[.int .i64 0,.slice none 0 0,.slice none 0 0] (0,0) _ rfl hq Tryz.underlying31 rfl Tryz.sizeTree) rfl
    ⟨_,_,_,_,_,_,_,rfl,(by rw[HZ.out];exact TreeAt.zero _),(((HB2.out.setCell (p:=⟨w.heap.size+1+1,0,none⟩) (by first | (simp;done) | (simp;omega)) _).setCell (p:=⟨w.heap.size+1+1,1,none⟩) (by first | (simp;done) | (simp;omega)) _).setCell (p:=⟨w.heap.size+1+1,2,none⟩) (by first | (simp;done) | (simp;omega)) _)⟩
  ·have HX:=hid (And.intro hps (And.intro hon hns));have HQ2:=hid (HQ1.out.below hb2 HQ1.out.lt);have HB2:=hid (HB1.out.trans (hb2.mono HB1.out.size));clear hps hon hns hb2 x0 x1 x2 x3 x4 y0;have d0:=HQ2.out.cell_ 0 (.int .i64 0) rfl;have f0:=HQ2.out.frozen 0;have d1:=HQ2.out.cell_ 1 (.slice none 0 0) rfl;have f1:=HQ2.out.frozen 1;have d2:=HQ2.out.cell_ 2 (.slice none 0 0) rfl;have f2:=HQ2.out.frozen 2;go_wp2;have hq:Blk (((w2.setCell ⟨w.heap.size+1+1,0,none⟩ (.int .i64 res.1.st)).setCell ⟨w.heap.size+1+1,1,none⟩ (.slice hA hood.length hc)).setCell ⟨w.heap.size+1+1,2,none⟩ (.slice oA os2.length oc)) (w.heap.size+1+1) 31 #[.int .i64 res.1.st,.slice hA hood.length hc,.slice oA os2.length oc]:=(((HQ2.out.set_ 0 (.int .i64 res.1.st)).set_ 1 (.slice hA hood.length hc)).set_ 2 (.slice oA os2.length oc))
   have hlt:w.heap.size+1+1 < w1.heap.size:=HQ1.out.lt;have hk:Kept (fun g=>g=w.heap.size+1+1) w2 (((w2.setCell ⟨w.heap.size+1+1,0,none⟩ (.int .i64 res.1.st)).setCell ⟨w.heap.size+1+1,1,none⟩ (.slice hA hood.length hc)).setCell ⟨w.heap.size+1+1,2,none⟩ (.slice oA os2.length oc)):=((((Kept.refl (fun g=>g=w.heap.size+1+1) w2).setCell (p:=⟨w.heap.size+1+1,0,none⟩) (Or.inl rfl) _).setCell (p:=⟨w.heap.size+1+1,1,none⟩) (Or.inl rfl) _).setCell (p:=⟨w.heap.size+1+1,2,none⟩) (Or.inl rfl) _)
   have hon2:=HX.out.2.1.kept hk (fun g g1 g2=>by subst g2;have:=(own_lt' HX.out.2.1.1 g1).2;omega) (fun x hx g g1 g2=>by subst g2;have:=(own_lt' (HX.out.2.1.2 x hx) g1).2;omega);have hbe:Below w.heap.size w (((w2.setCell ⟨w.heap.size+1+1,0,none⟩ (.int .i64 res.1.st)).setCell ⟨w.heap.size+1+1,1,none⟩ (.slice hA hood.length hc)).setCell ⟨w.heap.size+1+1,2,none⟩ (.slice oA os2.length oc)):=(((HB2.out.setCell (p:=⟨w.heap.size+1+1,0,none⟩) (by first | (simp;done) | (simp;omega)) _).setCell (p:=⟨w.heap.size+1+1,1,none⟩) (by first | (simp;done) | (simp;omega)) _).setCell (p:=⟨w.heap.size+1+1,2,none⟩) (by first | (simp;done) | (simp;omega)) _)
   exact bodyPost_ret (results_ct Tryz.results10 _ _ (w.heap.size+1+1) 31 #[.int .i64 res.1.st,.slice hA hood.length hc,.slice oA os2.length oc] (0,0) _ rfl hq Tryz.underlying31 rfl Tryz.sizeTree) rfl
    ⟨_,_,_,_,_,_,_,rfl,⟨hA,hc,oA,oc,os2,by rw[HX.out.1],by rw[HX.out.1];exact HPS.out.ext hbe,OwnN.reads hon2,HX.out.2.2⟩,hbe⟩
end Go.Proofs.YtlegfdllipkggaaGreatDoor
namespace Go.Proofs.YtlegfdllipkggaaGreatDoor
set_option linter.unusedVariables false
set_option linter.unusedSimpArgs false
def digs (q:Nat):Nat→Nat→List Nat
 | 0,_=>[]
 | n+1,m=>digs q n (m / q) ++ [m % q]
theorem digs_len (q:Nat):∀ n m,(digs q n m).length=n
 | 0,_=>rfl
 | n+1,m=>by unfold digs;rw[List.length_append,digs_len q n];rfl
theorem digs_zero {q:Nat}:∀ n,digs q n 0=List.replicate n 0
 | 0=>rfl
 | n+1=>by unfold digs;rw[Nat.zero_div,Nat.zero_mod,digs_zero n,List.replicate_succ']
theorem digs_mul {q:Nat}(hq:0 < q)(k b:Nat):∀ j,digs q (k+j) (b*q ^ j)=digs q k b ++ List.replicate j 0
 | 0=>by simp
 | j+1=>by
  show digs q (k+j) (b*q ^ (j+1) / q) ++ [b*q ^ (j+1) % q]=_;have e:b*q ^ (j+1)=b*q ^ j*q:=by rw[Nat.pow_succ,Nat.mul_assoc]
  rw[e,Nat.mul_div_cancel _ hq,Nat.mul_mod_left,digs_mul hq k b j,List.replicate_succ',List.append_assoc]
theorem digs_up {q:Nat}(hq:0 < q){a:Nat}(h:a % q+1 < q)(k:Nat):digs q (k+1) (a+1)=digs q k (a / q) ++ [a % q+1]:=by
 show digs q k ((a+1) / q) ++ [(a+1) % q]=_;have h1:=Nat.div_add_mod a q;have h2:(a+1) / q=a / q:=by
  rw[Nat.div_eq_of_lt_le]
  ·rw[Nat.mul_comm];omega
  ·rw[Nat.add_mul,Nat.one_mul,Nat.mul_comm];omega
 have h3:(a+1) % q=a % q+1:=by
  have h4:=Nat.div_add_mod (a+1) q;rw[h2] at h4;omega
 rw[h2,h3]
def numL (q:Nat)(l:List Nat):Nat:=l.foldl (fun a d=>a*q+d) 0
theorem numL_snoc (q:Nat)(l:List Nat)(d:Nat):numL q (l ++ [d])=numL q l*q+d:=by unfold numL;rw[List.foldl_append];rfl
theorem numL_digs {q:Nat}(hq:0 < q):∀ n m,m < q ^ n→numL q (digs q n m)=m
 | 0,m,h=>by
  have:m=0:=by simpa using h
  rw[this];rfl
 | n+1,m,h=>by
  unfold digs;rw[numL_snoc,numL_digs hq n (m / q) (by rw[Nat.div_lt_iff_lt_mul hq,← Nat.pow_succ];exact h),Nat.mul_comm];exact Nat.div_add_mod m q
structure Odo (q n m j:Nat):Prop where
 le:j≤n
 eq:m+1=(m / q ^ j+1)*q ^ j
theorem Odo.zero (q n m:Nat):Odo q n m 0:=⟨Nat.zero_le _,by simp⟩
theorem Odo.succ {q n m j:Nat}(h:Odo q n m j)(hj:j < n)(hd:m / q ^ j % q+1=q):Odo q n m (j+1):=by
 refine⟨hj,?_⟩;have h1:=h.eq;have h2:=Nat.div_add_mod (m / q ^ j) q;have e:m / q ^ (j+1)=m / q ^ j / q:=by rw[Nat.pow_succ,Nat.div_div_eq_div_mul]
 rw[e,Nat.pow_succ];have h3:m / q ^ j+1=(m / q ^ j / q+1)*q:=by rw[Nat.add_mul,Nat.one_mul,Nat.mul_comm];omega
 rw[h1,h3,Nat.mul_assoc,Nat.mul_comm q (q ^ j)]
theorem Odo.done {q n m:Nat}(h:Odo q n m n)(hm:m < q ^ n):m+1=q ^ n:=by
 have h1:=h.eq;rw[Nat.div_eq_of_lt hm,Nat.zero_add,Nat.one_mul] at h1;exact h1
theorem Odo.next {q n m j:Nat}(hq:0 < q)(h:Odo q n m j)(hj:j < n)(hd:m / q ^ j % q+1 < q):digs q n (m+1)=digs q (n - j - 1) (m / q ^ j / q) ++ [m / q ^ j % q+1] ++ List.replicate j 0:=by
 have e:n=(n - j)+j:=by omega
 have e2:n - j=(n - j - 1)+1:=by omega
 rw[h.eq]
 conv=>lhs;rw[e]
 rw[digs_mul hq,e2,digs_up hq hd];rfl
theorem Odo.row {q n m j:Nat}(hj:j < n):digs q (n - j) (m / q ^ j)=digs q (n - j - 1) (m / q ^ j / q) ++ [m / q ^ j % q]:=by
 have e2:n - j=(n - j - 1)+1:=by omega
 conv=>lhs;rw[e2]
 rfl
theorem digs_div (q m j:Nat):m / q ^ j / q=m / q ^ (j+1):=by rw[Nat.pow_succ,Nat.div_div_eq_div_mul]
end Go.Proofs.YtlegfdllipkggaaGreatDoor
namespace Go.Proofs.YtlegfdllipkggaaGreatDoor
open Lib(hid)
open Go.RowKit Go.Maps
set_option maxRecDepth 100000
set_option linter.unusedVariables false
set_option linter.unusedSimpArgs false
def cellN (w:World)(a:Addr):Nat:=match w.cell? a with | some (.int _ z)=>z.toNat | _=>0
def memN (w:World)(g q n:Nat):Nat:=numL q ((List.range n).map fun i=>cellN w ⟨g,i,none⟩)
theorem memN_own {w:World}{B g n c q:Nat}{l:List Nat}(h:OwnIA w B (.slice (some ⟨g,0,none⟩) n c) (intsN l))(hl:l.length=n):memN w g q n=numL q l:=by
 unfold memN
 congr 1
 refine List.ext_getElem (by simp[hl]) fun i h1 h2=>?_;obtain⟨h3,-⟩:=OwnI.cellk h (k:=i) (by rw[intsN_len];exact h2);simp only[List.getElem_map,List.getElem_range];unfold cellN;rw[h3];have:(intsN l).getD i 0=(l[i]:Int):=by
  unfold intsN;rw[List.getD_eq_getElem?_getD,List.getElem?_map,List.getElem?_eq_getElem h2];rfl
 rw[this]
 simp
theorem intsN_app (a b:List Nat):intsN (a ++ b)=intsN a ++ intsN b:=by simp[intsN]
theorem intsN_getD {l:List Nat}{i:Nat}(h:i < l.length):(intsN l).getD i 0=((l.getD i 0:Nat):Int):=by
 unfold intsN;rw[List.getD_eq_getElem?_getD,List.getElem?_map,List.getElem?_eq_getElem h,List.getD_eq_getElem?_getD,List.getElem?_eq_getElem h];rfl
theorem set_mid15 (a:List Nat)(x y:Nat)(b:List Nat):(intsN (a ++ [x] ++ b)).set a.length (y:Int)=intsN (a ++ [y] ++ b):=by
 rw[intsN_app,intsN_app,intsN_app,intsN_app,List.append_assoc,List.append_assoc,List.set_append_right _ _ (by rw[intsN_len];exact Nat.le_refl _),intsN_len,Nat.sub_self];rfl
theorem getD_mid15 (a:List Nat)(x:Nat)(b:List Nat):(a ++ [x] ++ b).getD a.length 0=x:=by
 rw[List.append_assoc,List.getD_eq_getElem?_getD,List.getElem?_append_right (Nat.le_refl _),Nat.sub_self];rfl
set_option maxHeartbeats 16000000 in
theorem each_any (q n gt gA gL:Nat)(S:Nat→World→Prop)(WE:World)(hq1:1≤q)(hq8:q≤8)(hn1:1≤n)(hn:n≤25)(h0:S 0 WE)(hgL:gL < WE.heap.size)
  (hst:∀ m W W',S m W→WE.heap.size≤W.heap.size→Below WE.heap.size W W'→S m W')
  (hvis:∀ m A c W,m < q ^ n→S m W→WE.heap.size≤W.heap.size→Ints W A (intsN (digs q n m))→Calls Tryz.prog 37 #[.slice A n c,.pointer (some ⟨gt,0,none⟩),.pointer (some ⟨gA,0,none⟩)] W fun e w'=>e=.returned (.tuple #[])∧S (m+1) w'∧Kept (fun g=>g=gL) W w') :
  Calls Tryz.prog 36 #[.int .i64 (q:Int),.int .i64 (n:Int),.func (.func 37) #[] #[.pointer (some ⟨gt,0,none⟩),.pointer (some ⟨gA,0,none⟩)]] WE fun e w'=>e=.returned (.tuple #[])∧S (q ^ n) w'∧Kept (fun g=>g=gL) WE w':=by
 have HQ:=hid (And.intro hq1 (And.intro hq8 (And.intro hn1 hn)));have HS:=hid (And.intro h0 (And.intro hgL (And.intro hst hvis)));obtain⟨i0,hi0,hz0,hz1,hz2⟩:=info_parts Tryz.infoInt;have hmw:WE.heap.size≤WE.heap.size:=Nat.le_refl _;clear h0 hgL hst hvis;go_enter Tryz.func36,Tryz.ntmps36;go_wp2_with (at_make;refine wpList_make_full _ rfl _ _ 38 rfl WE.heap.size 3 i0 _ 1 Tryz.underlying38 hi0 hz0 hz1 .i64 .i64 n n n rfl rfl rfl rfl (by rw[hz2];omega) (by unfold maxLen;omega) hmw ?_);intro w1 ho1 hg1;have hb1:Below WE.heap.size WE w1:=(Below.refl _ WE).grown hg1 (Nat.le_refl _) (by intro k hk;cases hk);obtain⟨gI,hgI⟩:∃ g,g=WE.heap.size:=⟨_,rfl⟩
 have hr1:OwnIA w1 WE.heap.size (.slice (some ⟨WE.heap.size,0,none⟩) n n) (intsN (digs q n 0)):=by
  rw[digs_zero];unfold OwnIA OwnI intsN;rw[List.length_map,List.length_replicate,List.map_replicate,List.map_replicate];rw[toList_madeCells_one] at ho1;exact ho1
 have HR1:Hid (OwnIA w1 WE.heap.size (.slice (some ⟨gI,0,none⟩) n n) (intsN (digs q n 0))):=hid (by rw[hgI];exact hr1);have HS1:Hid (S 0 w1):=hid (HS.out.2.2.1 0 WE w1 HS.out.1 (Nat.le_refl _) hb1);have HK1:Hid (Kept (fun g=>g=gL) WE w1):=hid (Kept.of_new _ hb1);have HGI:Hid (gI=WE.heap.size):=hid hgI;have hpos:0 < q ^ n:=Nat.pow_pos (by omega);have HPOS:=hid hpos;rw[← hgI];clear ho1 hg1 hb1 hr1 hgI hi0 hz0 hz1 hz2 hmw hpos hq1 hq8 hn1 hn;go_wp2;go_loopw [7] (fun kv wr=>∃ m:Nat,m < q ^ n∧Hid (OwnIA wr WE.heap.size (.slice (some ⟨gI,0,none⟩) n n) (intsN (digs q n m)))∧Hid (S m wr)∧Hid (Kept (fun g=>g=gL) WE wr)) (fun _ wr=>q ^ n - memN wr gI q n)
 case atStart=>exact⟨0,HPOS.out,HR1,HS1,HK1⟩
 case round=>
  clear HR1 HS1 HK1;obtain⟨m,hm,HO,HSM,HKM⟩:=hrel;have HM:=hid hm;have HMEM:Hid (memN wr gI q n=m):=hid (by rw[memN_own HO.out (digs_len _ _ _)];exact numL_digs (by have:=HQ.out.1;omega) n m hm);have HV:=hid (HS.out.2.2.2 m (some ⟨gI,0,none⟩) n wr hm HSM.out HKM.out.below.size (by have:=OwnI.reads HO.out;exact this));clear hm;go_wp2_with (go_at_call 37;refine HV.out.mono ?_;rintro e w2 ⟨rfl,hs2,hk2⟩;refine Hid.out ?_);refine hid ?_;have HS2:=hid hs2;have HO2:Hid (OwnIA w2 WE.heap.size (.slice (some ⟨gI,0,none⟩) n n) (intsN (digs q n m))):=hid (hk2.own HO.out (fun g e1 e2=>by have:=(own_lt' HO.out e1).2;have:=HS.out.2.1;omega));have HK2:=hid (HKM.out.trans hk2);have hn64:wrap64 ((n:Int) - 1)=(n:Int) - 1:=by have:=HQ.out;unfold wrap64;omega
  clear hs2 hk2;go_wp2;go_loopw [7] (fun kv wi=>∃ j:Nat,Hid (Odo q n m j)∧kv=.int .i64 ((n:Int) - 1 - (j:Int))∧Hid (OwnIA wi WE.heap.size (.slice (some ⟨gI,0,none⟩) n n) (intsN (digs q (n - j) (m / q ^ j) ++ List.replicate j 0)))∧Hid (Below WE.heap.size w2 wi)) (fun kv _=>(intOf kv+1).toNat)
  case atStart=>exact⟨0,hid (Odo.zero q n m),(by rw[show ((0:Nat):Int)=0 from rfl,Int.sub_zero];first | rfl | exact congrArg _ hn64),hid (by simpa using HO2.out),hid (Below.refl _ _)⟩
  case round=>
   obtain⟨j,HOD,rfl,HOJ,HBJ⟩:=hrel;have hle:=HOD.out.le;by_cases hjn:j < n
   ·obtain⟨kk,hkk⟩:∃ kk:Nat,kk=n - j - 1:=⟨_,rfl⟩
    obtain⟨dg,hdg⟩:∃ d,d=m / q ^ j % q:=⟨_,rfl⟩
    have hrow:=Odo.row (q:=q) (m:=m) hjn;rw[← hdg] at hrow;have hlk:(digs q (n - j - 1) (m / q ^ j / q)).length=kk:=by rw[digs_len,hkk]
    have hown:=HOJ.out;rw[hrow] at hown;have HOW:=hid hown;have hkl:kk < (intsN (digs q (n - j - 1) (m / q ^ j / q) ++ [dg] ++ List.replicate j 0)).length:=by rw[intsN_len,List.length_append,List.length_append,hlk];simp;omega
    obtain⟨ck,fk⟩:=OwnI.cellk hown hkl;rw[intsN_getD (by rw[intsN_len] at hkl;exact hkl),← hlk,getD_mid15,hlk] at ck;have hkI:((n:Int) - 1 - (j:Int))=(kk:Int):=by omega
    have hk0:decide (0≤(kk:Int))=true:=decide_eq_true (by omega);have hkn:kk < n:=by omega
    have hq64:wrap64 ((q:Int) - 1)=(q:Int) - 1:=by have:=HQ.out;unfold wrap64;omega
    have hdq:dg < q:=by rw[hdg];exact Nat.mod_lt _ (by have:=HQ.out.1;omega)
    have hk64:wrap64 ((kk:Int) - 1)=(kk:Int) - 1:=by have:=HQ.out;unfold wrap64;omega
    have HJN:=hid (And.intro hjn (And.intro hlk (And.intro hdg (And.intro hkk (And.intro hkI hdq)))));have HSZ:Hid (WE.heap.size≤gI):=hid (by rw[HGI.out];exact Nat.le_refl _);rw[hkI];clear hle hrow hown hkl hkk hdg hjn hlk;by_cases hd:dg+1=q
    ·have hq1:((dg:Int) == (q:Int) - 1)=true:=beq_iff_eq.2 (by omega);have HO9:Hid (OwnIA (wr.setCell ⟨gI,kk,none⟩ (.int .i64 0)) WE.heap.size (.slice (some ⟨gI,0,none⟩) n n) (intsN (digs q (n - (j+1)) (m / q ^ (j+1)) ++ List.replicate (j+1) 0))):=hid (by
      have h1:=OwnI.set HOW.out (by rw[intsN_len,List.length_append,List.length_append,HJN.out.2.1];simp;have:=HJN.out;omega) kk 0;have h2:=set_mid15 (digs q (n - j - 1) (m / q ^ j / q)) dg 0 (List.replicate j 0);rw[HJN.out.2.1] at h2;rw[show ((0:Nat):Int)=0 from rfl] at h2;rw[h2] at h1;rw[← digs_div,show n - (j+1)=n - j - 1 by omega,List.replicate_succ,← List.singleton_append,← List.append_assoc];exact h1)
     have HB9:Hid (Below WE.heap.size w2 (wr.setCell ⟨gI,kk,none⟩ (.int .i64 0))):=hid (HBJ.out.setCell (p:=⟨gI,kk,none⟩) HSZ.out _);have HOD2:=hid (HOD.out.succ HJN.out.1 (by rw[← HJN.out.2.2.1];exact hd));clear hd;go_wp2;go_roundw
     case rel=>exact⟨j+1,HOD2,(by first | (rw[hk64,← HJN.out.2.2.2.2.1];congr 1;omega) | (have:=HJN.out.2.2.2.2.1;congr 1;omega)),HO9,HB9⟩
     case measure=>(try rw[hk64]);simp only[intOf];omega
    ·have hq1:((dg:Int) == (q:Int) - 1)=false:=beq_false_of_ne (by omega);have hkn0:decide ((kk:Int) < 0)=false:=decide_eq_false (by omega);have hd64:wrap64 ((dg:Int)+1)=((dg+1:Nat):Int):=by have:=HQ.out;unfold wrap64;omega
     have HO9:Hid (OwnIA (wr.setCell ⟨gI,kk,none⟩ (.int .i64 ((dg:Int)+1))) WE.heap.size (.slice (some ⟨gI,0,none⟩) n n) (intsN (digs q n (m+1)))):=hid (by
      have h1:=OwnI.set HOW.out (by rw[intsN_len,List.length_append,List.length_append,HJN.out.2.1];simp;have:=HJN.out;omega) kk ((dg+1:Nat):Int);have h2:=set_mid15 (digs q (n - j - 1) (m / q ^ j / q)) dg (dg+1) (List.replicate j 0);rw[HJN.out.2.1] at h2;rw[h2] at h1;rw[HOD.out.next (by have:=HQ.out.1;omega) HJN.out.1 (by rw[← HJN.out.2.2.1];have:=HJN.out.2.2.2.2.2;omega),← HJN.out.2.2.1];exact h1)
     have HB9:Hid (Below WE.heap.size w2 (wr.setCell ⟨gI,kk,none⟩ (.int .i64 ((dg:Int)+1)))):=hid (HBJ.out.setCell (p:=⟨gI,kk,none⟩) HSZ.out _);have HM1:Hid (m+1 < q ^ n):=hid (by
      have h1:=HOD.out.eq;have h2:m / q ^ j+1 < q ^ (n - j):=by
       have h3:m / q ^ j < q ^ (n - j):=by
        rw[Nat.div_lt_iff_lt_mul (Nat.pow_pos (by have:=HQ.out.1;omega)),← Nat.pow_add,show n - j+j=n by have:=HJN.out.1;omega];exact HM.out
       rcases Nat.lt_or_ge (m / q ^ j+1) (q ^ (n - j)) with h4 | h4
       ·exact h4
       ·exfalso;have h5:m / q ^ j+1=q ^ (n - j):=by omega
        have h6:(m / q ^ j+1) % q=0:=by
         rw[h5,show n - j=(n - j - 1)+1 by have:=HJN.out.1;omega,Nat.pow_succ,Nat.mul_mod_left]
        have h7:=Nat.div_add_mod (m / q ^ j) q;rw[← HJN.out.2.2.1] at h7;have h8:(m / q ^ j+1) % q=dg+1:=by
         rw[← h7,Nat.add_assoc,Nat.mul_add_mod];exact Nat.mod_eq_of_lt (by have:=HJN.out.2.2.2.2.2;omega)
        omega
      rw[h1]
      calc (m / q ^ j+1)*q ^ j < q ^ (n - j)*q ^ j:=Nat.mul_lt_mul_of_pos_right h2 (Nat.pow_pos (by have:=HQ.out.1;omega))
       _=q ^ n:=by rw[← Nat.pow_add,show n - j+j=n by have:=HJN.out.1;omega])
     have HSN:Hid (S (m+1) (wr.setCell ⟨gI,kk,none⟩ (.int .i64 ((dg:Int)+1)))):=hid (HS.out.2.2.1 _ _ _ HS2.out HK2.out.below.size HB9.out);have HKN:Hid (Kept (fun g=>g=gL) WE (wr.setCell ⟨gI,kk,none⟩ (.int .i64 ((dg:Int)+1)))):=hid (HK2.out.overB (Kept.of_below HB9.out) (fun g e=>e));have HMM:Hid (memN (wr.setCell ⟨gI,kk,none⟩ (.int .i64 ((dg:Int)+1))) gI q n=m+1):=hid (by rw[memN_own HO9.out (digs_len _ _ _)];exact numL_digs (by have:=HQ.out.1;omega) n _ HM1.out);clear hd hdq;rw[show (((dg+1:Nat):Int))=(dg:Int)+1 from by omega] at hd64;go_wp2;go_roundw
     case rel=>exact⟨m+1,HM1.out,HO9,HSN,HKN⟩
     case measure=>rw[HMM.out,HMEM.out];have:=HM.out;omega
   ·obtain rfl:j=n:=Nat.le_antisymm hle (Nat.le_of_not_lt hjn);have hkI:((j:Int) - 1 - (j:Int)) = -1:=by omega
    rw[hkI];have HF:Hid (m+1=q ^ j):=hid (HOD.out.done HM.out);clear hle hjn;go_wp2;(try simp only[Exit.inBlock,Exit.then]);refine bodyPost_ret (results_none rfl _ _ _) rfl ?_;refine⟨rfl,?_,?_⟩
    ·rw[← HF.out];exact HS.out.2.2.1 _ _ _ HS2.out HK2.out.below.size HBJ.out
    ·exact HK2.out.overB (Kept.of_below HBJ.out) (fun g e=>e)
end Go.Proofs.YtlegfdllipkggaaGreatDoor
namespace Go.Proofs.YtlegfdllipkggaaGreatDoor
open Go.RowKit Go.Maps
set_option maxRecDepth 100000
set_option linter.unusedVariables false
set_option linter.unusedSimpArgs false
theorem Tryz.infoBool:(Tryz.prog.info? 4).map (fun i=>(i.zero,i.size,i.bytes))=some (some (.bool false),1,1):=by kernel_rfl
def OwnBl (w:World)(base:Nat)(v:Value)(al:List Bool):Prop:=w.ownsRow base 4 1 v al.length (al.map Value.bool)
theorem OwnBl.set {w:World}{base g n c:Nat}{al:List Bool}(h:OwnBl w base (.slice (some ⟨g,0,none⟩) n c) al)(j:Nat)(b:Bool):OwnBl (w.setCell ⟨g,j,none⟩ (.bool b)) base (.slice (some ⟨g,0,none⟩) n c) (al.set j b):=by
 have hn:=own_form h;obtain⟨A,c',e,-,-⟩:=hn;injection e with _ e2 _
 subst e2;have:=(World.ownsRow.stored h j (.bool b)).1;unfold OwnBl;rw[List.length_set,List.map_set];exact this
theorem OwnBl.cellk {w:World}{base g n c:Nat}{al:List Bool}(h:OwnBl w base (.slice (some ⟨g,0,none⟩) n c) al){k:Nat}(hk:k < al.length):w.cell? ⟨g,k,none⟩=some (.bool (al.getD k false))∧w.frozen? ⟨g,k,none⟩=false:=by
 obtain⟨A,c',e,-,-⟩:=own_form h;injection e with _ e2 _
 subst e2;have h4:=World.ownsRow.cells h rfl k (.bool (al.getD k false)) (by rw[List.getElem?_map,List.getElem?_eq_getElem hk,List.getD_eq_getElem?_getD,List.getElem?_eq_getElem hk];rfl);have h5:=World.ownsRow.frozenAt h k;simp only[addr_add,Nat.zero_add] at h4 h5;exact⟨h4,h5⟩
theorem own_belowB {w w':World}{B base size n g c m:Nat}{e:TypeId}{xs:List Value}(h:w.ownsRow base e size (.slice (some ⟨g,0,none⟩) n c) m xs)(hg:g < B)(hb:Below B w w'):w'.ownsRow base e size (.slice (some ⟨g,0,none⟩) n c) m xs:=
 (Kept.of_below hb).own h (fun k hk hB=>by
  have:g=k:=by simpa [Value.ownBlock] using hk
  omega)
theorem own_weak {w:World}{b b' size n:Nat}{e:TypeId}{v:Value}{xs:List Value}(h:w.ownsRow b e size v n xs)(hb:b'≤b):w.ownsRow b' e size v n xs:=by
 obtain⟨h1,h2⟩:=h;refine⟨h1,?_⟩;rcases h2 with h2 | ⟨g,cap,cur,h3,h4,h5,h6⟩
 ·exact .inl h2
 ·exact .inr ⟨g,cap,cur,h3,Nat.le_trans hb h4,h5,h6⟩
end Go.Proofs.YtlegfdllipkggaaGreatDoor
