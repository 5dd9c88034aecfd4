/-
  texts RVal11 RValue15 EqR: parts of the proof; conditions stand with each theorem.
-/
import Derived.Test.YtlegfdllipkggaaGreatDoorWRDec11
import Derived.Test.YtlegfdllipkggaaGreatDoorWG5
namespace Go.Proofs.YtlegfdllipkggaaGreatDoor
open Lib(hid)
open Go.RowKit Go.Sort Go.Maps
set_option maxRecDepth 100000
set_option linter.unusedVariables false
set_option linter.unusedSimpArgs false
theorem firstD_drop {x:TabL}{inn:List Int}{rs:List Rw}{j:Nat}(h:j < rs.length):firstD x inn (rs.drop j)=if (rowD x inn rs[j]).2=true then some (rowD x inn rs[j]).1 else firstD x inn (rs.drop (j+1)):=by
 rw[List.drop_eq_getElem_cons h];rfl
set_option maxHeartbeats 16000000 in
theorem rval11_any (hA:Option Addr)(hc:Nat)(vA:Option Addr)(vc:Nat)(rA:Option Addr)(rc:Nat)(t:TabH)(iA:Option Addr)(ic:Nat)(inn:List Int)(w:World)(hT:TabR w hA vA rA t)(hr:rightTab t.tab=true)(hi:Ints w iA inn)(hl:inn.length=t.hood.length)(hst:∀ s ∈ inn,0≤s∧s < t.st) :
  Calls Tryz.prog 95 #[tabV hA hc vA vc rA rc t,.slice iA inn.length ic] w fun en w'=>en=.returned (.int .i64 (valT t.tab inn))∧Below w.heap.size w w':=by
 obtain⟨w0,hw0⟩:∃ w0,w0=w.alloc (.cells #[.int .i64 t.st,.int .i64 t.sym,.slice hA t.hood.length hc,.slice vA t.vs.length vc,.slice rA t.rs.length rc] 26):=⟨_,rfl⟩
 have hb0:Below w.heap.size w w0:=by rw[hw0];exact below_new _ _
 have p0:Blk w0 w.heap.size 26 #[.int .i64 t.st,.int .i64 t.sym,.slice hA t.hood.length hc,.slice vA t.vs.length vc,.slice rA t.rs.length rc]:=by rw[hw0];exact Blk.new _ _ _
 obtain⟨gT,hgT⟩:∃ g,g=w.heap.size:=⟨_,rfl⟩
 rw[← hgT] at p0;have HB0:=hid hb0;have HP:=hid p0;have HW0:=hid (And.intro hw0 hgT);have HI:=hid (hi.ext hb0);have HDEC:Hid (∀ (j:Nat) (h:j < t.rs.length) (W:World),Below w0.heap.size w0 W→Calls Tryz.prog 78 #[tabV hA hc vA vc rA rc t,.int .i64 (j:Int),.slice iA inn.length ic] W fun en w'=>en=.returned (.tuple #[.int .i64 (rowD t.tab inn (t.rs[j]'h).rw_).1,.bool (rowD t.tab inn (t.rs[j]'h).rw_).2])∧Below W.heap.size W w'):=hid (fun j h W hW=>rdec_any hA hc vA vc rA rc t j h iA ic inn W ((hT.ext hb0).ext hW) hr ((hi.ext hb0).ext hW) hl hst);have HCT:Hid (∀ W,Below w0.heap.size w0 W→Calls Tryz.prog 101 #[.slice hA t.hood.length hc] W fun e w'=>e=.returned (.int .i64 (ctrP t.hood))∧Below W.heap.size W w'):=hid (fun W hW=>rcentre_any hA t.hood hc W ((hT.ext hb0).hood.ext hW));have hh9:t.hood.length≤9223372036854775807:=hT.hood.le;have hr9:t.rs.length≤9223372036854775807:=hT.rows.le;have hi9:inn.length≤9223372036854775807:=hi.le;have HTB:Hid (t.tab.hood=t.hood∧t.tab.rows=t.rs.map Rh.rw_):=hid ⟨rfl,rfl⟩;have HL:=hid hl;obtain⟨TL,hTL⟩:∃ x,x=t.tab:=⟨_,rfl⟩
 rw[← hTL] at HDEC HTB ⊢;obtain⟨res,hres⟩:∃ r,r=valT TL inn:=⟨_,rfl⟩
 rw[← hres];unfold valT at hres;have HRES:=hid hres;obtain⟨st,sym,hood,vs,rs⟩:=t;unfold tabV at HDEC ⊢;dsimp only at HDEC HCT HP HW0 HTB HL hh9 hr9 ⊢;clear hb0 p0 hw0 hgT hT hr hi hl hst hTL hres;go_enter Tryz.func95,Tryz.ntmps95;go_upto_region 2 with fail
 rw[← HW0.out.1,← HW0.out.2];go_loopw [5] (fun iv wr=>∃ j:Nat,j≤rs.length∧iv=.int .i64 j∧Hid (Below w0.heap.size w0 wr)∧Hid (firstD TL inn TL.rows=firstD TL inn (TL.rows.drop j))) (fun iv _=>rs.length - (intOf iv).toNat)
 case atStart=>exact⟨0,Nat.zero_le _,rfl,hid (Below.refl _ _),hid rfl⟩
 case round=>
  obtain⟨j,hj,rfl,HBW,HT⟩:=hrel;have hpw:=HP.out.below HBW.out HP.out.lt;have x0:=hpw.cell_ 0 (.int .i64 st) rfl;have x1:=hpw.cell_ 1 (.int .i64 sym) rfl;have x2:=hpw.cell_ 2 (.slice hA hood.length hc) rfl;have x3:=hpw.cell_ 3 (.slice vA vs.length vc) rfl;have x4:=hpw.cell_ 4 (.slice rA rs.length rc) rfl;clear hpw;by_cases hjl:j < rs.length
  ·have hjr:j < TL.rows.length:=by rw[HTB.out.2,List.length_map];exact hjl
   have hstep:=HT.out.trans (firstD_drop (x:=TL) (inn:=inn) hjr);have hg:TL.rows[j]'hjr=(rs[j]'hjl).rw_:=by
    have h1:=HTB.out.2;have:TL.rows[j]?=some (rs[j]'hjl).rw_:=by rw[h1,List.getElem?_map,List.getElem?_eq_getElem hjl];rfl
    rw[List.getElem?_eq_getElem hjr] at this;exact Option.some.inj this
   rw[hg] at hstep;have hcall:=HDEC.out j hjl wr HBW.out;obtain⟨q,hq⟩:∃ q,q=rowD TL inn (rs[j]'hjl).rw_:=⟨_,rfl⟩
   rw[← hq] at hstep hcall;obtain⟨q1,q2⟩:=q;dsimp only at hstep hcall;have HST:=hid hstep;have HCALL:=hid hcall;have HJ:=hid hjl;have hwj:wrap64 ((j:Int)+1)=(j:Int)+1:=by unfold wrap64;omega
   have HWJ:=hid hwj;clear hj hjr hstep hg hcall hq hwj;go_wp2_with (go_at_call 78;refine HCALL.out.mono ?_;rintro en w2 ⟨rfl,hb2⟩;refine Hid.out ?_);refine hid ?_;have HB2:=hid (btr HBW.out hb2);clear hb2 x0 x1 x2 x3 x4 HCALL;cases q2 with
   | true=>
    have HF:Hid (res=q1):=hid (by rw[HRES.out,HST.out,if_pos rfl]);go_wp2;go_ret;exact⟨ret_int HF.out.symm,HB0.out.trans (HB2.out.mono HB0.out.size)⟩
   | false=>
    have HT2:Hid (firstD TL inn TL.rows=firstD TL inn (TL.rows.drop (j+1))):=hid (by rw[HST.out,if_neg Bool.false_ne_true]);go_wp2;go_roundw
    case rel=>exact⟨j+1,HJ.out,(by first | rfl | (rw[HWJ.out];rfl)),HB2,HT2⟩
    case measure=>(try rw[HWJ.out]);exact meas_step HJ.out
  ·obtain rfl:j=rs.length:=Nat.le_antisymm hj (Nat.le_of_not_lt hjl);have hno:firstD TL inn TL.rows=none:=by rw[HT.out,List.drop_of_length_le (by rw[HTB.out.2,List.length_map];exact Nat.le_refl _)];rfl
   have HR2:Hid (res=if 0≤ctrP hood then inn.getD (ctrP hood).toNat 0 else 0):=hid (by rw[HRES.out,hno,HTB.out.1]);have HCALL:=hid (HCT.out wr HBW.out);have hcl:=ctr_lt15 hood;obtain⟨c,hcc⟩:∃ c,c=ctrP hood:=⟨_,rfl⟩
   rw[← hcc] at HCALL HR2 hcl;have HCL:=hid hcl;clear hj hjl hno hcl hcc;go_wp2_with (go_at_call 101;refine HCALL.out.mono ?_;rintro en w3 ⟨rfl,hb3⟩;refine Hid.out ?_);refine hid ?_;have HB3:=hid (btr HBW.out hb3);clear hb3 x0 x1 x2 x3 x4 HCALL;by_cases hc0:0≤c
   ·have d0:decide (0≤c)=true:=decide_eq_true hc0;have hcn:c.toNat < inn.length:=by
     rcases HCL.out with h | ⟨-,h⟩
     ·omega
     ·rw[HL.out];exact h
    obtain⟨n,rfl⟩:∃ n:Nat,c=(n:Int):=⟨c.toNat,by omega⟩
    rw[Int.toNat_natCast] at hcn;obtain⟨ib,io,ei,-,hci⟩:=(HI.out.ext HB3.out).at_ hcn;have hg:inn.getD n 0=inn[n]'hcn:=by rw[List.getD_eq_getElem?_getD,List.getElem?_eq_getElem hcn];rfl
    have HF:Hid (res=inn[n]'hcn):=hid (by rw[HR2.out,if_pos hc0,Int.toNat_natCast,hg]);obtain⟨z,hz⟩:∃ z,z=inn[n]'hcn:=⟨_,rfl⟩
    rw[← hz] at hci HF;subst ei;clear hc0 hg hz;go_wp2;go_ret;exact⟨ret_int HF.out.symm,HB0.out.trans (HB3.out.mono HB0.out.size)⟩
   ·have d0:decide (0≤c)=false:=decide_eq_false hc0;have HF:Hid (res=0):=hid (by rw[HR2.out,if_neg hc0]);clear hc0;go_wp2;go_ret;exact⟨ret_int HF.out.symm,HB0.out.trans (HB3.out.mono HB0.out.size)⟩
def valRP (t:TabL)(row:Option Nat)(inn:List Int):Int:=match row with
 | none=>valT t inn
 | some i=>match t.rows[i]? with
  | some r=>if (rowD t inn r).2=true then 1 else 0
  | none=>0
def rowN:Option Nat→Int
 | none=>-1
 | some i=>(i:Int)
set_option maxHeartbeats 16000000 in
theorem rvalue15_any (hA:Option Addr)(hc:Nat)(vA:Option Addr)(vc:Nat)(rA:Option Addr)(rc:Nat)(t:TabH)(row:Option Nat)(hrow:∀ i,row=some i→i < t.rs.length)(iA:Option Addr)(ic:Nat)(inn:List Int)(w:World)(hT:TabR w hA vA rA t)(hr:rightTab t.tab=true)(hi:Ints w iA inn)(hl:inn.length=t.hood.length)(hst:∀ s ∈ inn,0≤s∧s < t.st) :
  Calls Tryz.prog 74 #[tabV hA hc vA vc rA rc t,.int .i64 (rowN row),.slice iA inn.length ic] w fun en w'=>en=.returned (.int .i64 (valRP t.tab row inn))∧Below w.heap.size w w':=by
 obtain⟨w0,hw0⟩:∃ w0,w0=w.alloc (.cells #[.int .i64 t.st,.int .i64 t.sym,.slice hA t.hood.length hc,.slice vA t.vs.length vc,.slice rA t.rs.length rc] 26):=⟨_,rfl⟩
 have hb0:Below w.heap.size w w0:=by rw[hw0];exact below_new _ _
 have p0:Blk w0 w.heap.size 26 #[.int .i64 t.st,.int .i64 t.sym,.slice hA t.hood.length hc,.slice vA t.vs.length vc,.slice rA t.rs.length rc]:=by rw[hw0];exact Blk.new _ _ _
 obtain⟨gT,hgT⟩:∃ g,g=w.heap.size:=⟨_,rfl⟩
 rw[← hgT] at p0;have HB0:=hid hb0;have HP:=hid p0;have HW0:=hid (And.intro hw0 hgT);have hh9:t.hood.length≤9223372036854775807:=hT.hood.le;have hr9:t.rs.length≤9223372036854775807:=hT.rows.le;have hi9:inn.length≤9223372036854775807:=hi.le;cases row with
 | none=>
  have hcall:=rval11_any hA hc vA vc rA rc t iA ic inn w0 (hT.ext hb0) hr (hi.ext hb0) hl hst;have HRES:Hid (valRP t.tab none inn=valT t.tab inn):=hid rfl;obtain⟨z,hz⟩:∃ z,z=valT t.tab inn:=⟨_,rfl⟩
  obtain⟨z',hz'⟩:∃ z,z=valRP t.tab none inn:=⟨_,rfl⟩
  rw[← hz] at hcall HRES;rw[← hz'] at HRES ⊢;obtain⟨st,sym,hood,vs,rs⟩:=t;unfold tabV at hcall ⊢;dsimp only at hcall HP HW0 hh9 hr9 ⊢;have HCALL:=hid hcall;unfold rowN;have x0:=HP.out.cell_ 0 (.int .i64 st) rfl;have x1:=HP.out.cell_ 1 (.int .i64 sym) rfl;have x2:=HP.out.cell_ 2 (.slice hA hood.length hc) rfl;have x3:=HP.out.cell_ 3 (.slice vA vs.length vc) rfl;have x4:=HP.out.cell_ 4 (.slice rA rs.length rc) rfl;clear hb0 p0 hw0 hgT hT hr hi hl hst hrow hcall hz hz';go_enter Tryz.func74,Tryz.ntmps74;go_upto_region 1 with fail
  rw[← HW0.out.1,← HW0.out.2];go_wp2_with (go_at_call 95;refine HCALL.out.mono ?_;rintro en w2 ⟨rfl,hb2⟩;refine Hid.out ?_);refine hid ?_;clear x0 x1 x2 x3 x4 HCALL;go_wp2;go_ret;exact⟨ret_int HRES.out.symm,HB0.out.trans (hb2.mono HB0.out.size)⟩
 | some i=>
  have hil:=hrow i rfl;have hcall:=rdec_any hA hc vA vc rA rc t i hil iA ic inn w0 (hT.ext hb0) hr (hi.ext hb0) hl hst;obtain⟨q,hq⟩:∃ q,q=rowD t.tab inn (t.rs[i]'hil).rw_:=⟨_,rfl⟩
  have hres:valRP t.tab (some i) inn=if q.2=true then 1 else 0:=by
   unfold valRP;have:t.tab.rows[i]?=some (t.rs[i]'hil).rw_:=by unfold TabH.tab;rw[List.getElem?_map,List.getElem?_eq_getElem hil];rfl
   dsimp only;rw[this,hq]
  rw[← hq] at hcall;obtain⟨z',hz'⟩:∃ z,z=valRP t.tab (some i) inn:=⟨_,rfl⟩
  rw[← hz'] at hres ⊢;obtain⟨q1,q2⟩:=q;dsimp only at hcall hres;have HRES:=hid hres;obtain⟨st,sym,hood,vs,rs⟩:=t;unfold tabV at hcall ⊢;dsimp only at hcall HP HW0 hh9 hr9 hil ⊢;have HCALL:=hid hcall;have d0:decide ((i:Int) < 0)=false:=decide_eq_false (by omega);unfold rowN;have x0:=HP.out.cell_ 0 (.int .i64 st) rfl;have x1:=HP.out.cell_ 1 (.int .i64 sym) rfl;have x2:=HP.out.cell_ 2 (.slice hA hood.length hc) rfl;have x3:=HP.out.cell_ 3 (.slice vA vs.length vc) rfl;have x4:=HP.out.cell_ 4 (.slice rA rs.length rc) rfl;clear hb0 p0 hw0 hgT hT hr hi hl hst hrow hcall hq hz' hres hil;go_enter Tryz.func74,Tryz.ntmps74;go_upto_region 1 with fail
  rw[← HW0.out.1,← HW0.out.2];go_wp2_with (go_at_call 78;refine HCALL.out.mono ?_;rintro en w2 ⟨rfl,hb2⟩;refine Hid.out ?_);refine hid ?_;clear x0 x1 x2 x3 x4 HCALL;cases q2 with
  | true=>
   have HF:Hid (z'=1):=hid (by rw[HRES.out,if_pos rfl]);go_wp2;go_ret;exact⟨ret_int HF.out.symm,HB0.out.trans (hb2.mono HB0.out.size)⟩
  | false=>
   have HF:Hid (z'=0):=hid (by rw[HRES.out,if_neg Bool.false_ne_true]);go_wp2;go_ret;exact⟨ret_int HF.out.symm,HB0.out.trans (hb2.mono HB0.out.size)⟩
end Go.Proofs.YtlegfdllipkggaaGreatDoor
namespace Go.Proofs.YtlegfdllipkggaaGreatDoor
open Lib(hid)
set_option linter.unusedSimpArgs false
set_option linter.unusedVariables false
open Go.RowKit
set_option maxRecDepth 100000

set_option maxHeartbeats 400000 in
theorem sameIntsR (A B:Option Addr)(xs ys:List Int)(c d:Nat)(w:World)(ha:Ints w A xs)(hb:Ints w B ys) :
  Calls Tryz.prog 96 #[.slice A xs.length c,.slice B ys.length d] w fun e w'=>e=.returned (.bool (decide (xs=ys)))∧Qt w w':=by
 have hn:=ha.le;have hm:=hb.le;by_cases hl:xs.length=ys.length
 ·have hd:((xs.length:Int) != ys.length)=false:=by simp[hl]
  have HL:=hid hl;clear hl;go_enter Tryz.func96,Tryz.ntmps96;go_wp2;go_loopw [5] (fun i wr=>∃ k q:Nat,k≤xs.length∧i=.int .i64 k∧wr=w.drewN q∧Hid (xs.take k=ys.take k)) (fun i _=>xs.length - (intOf i).toNat)
  case atStart=>exact⟨0,0,Nat.zero_le _,rfl,rfl,hid rfl⟩
  case round=>
   obtain⟨k,q,hk,rfl,rfl,HT⟩:=hrel;by_cases hlt:k < xs.length
   ·have hlt2:k < ys.length:=by have:=HL.out;omega
    obtain⟨b1,o1,rfl,-,hc⟩:=ha.at_ hlt;obtain⟨b2,o2,rfl,-,hc2⟩:=hb.at_ hlt2;go_wp2;go_quiet (fail)
    go_wp2
    ·have hne:¬ xs[k]=ys[k]:=by simpa using ‹(xs[k] != ys[k])=true›
     go_ret;refine⟨ret_bool (decide_eq_false ?_).symm,(Qt.drewN _ _).step _⟩;rintro rfl;exact hne rfl
    ·have he:xs[k]=ys[k]:=by simpa using ‹(xs[k] != ys[k])=false›
     go_roundw
     case rel=>exact⟨k+1,_,by omega,by go_num,rfl,hid (take_eq_snoc HT.out hlt hlt2 he)⟩
     case measure=>simp[intOf];omega
   ·have hk':k=xs.length:=by omega
    have hfin:xs=ys:=by
     have:=HT.out;rwa [hk',List.take_of_length_le (Nat.le_refl _),List.take_of_length_le (by rw[HL.out];exact Nat.le_refl _)] at this
    clear hk';have HF:=hid hfin;clear hfin;go_wp2;go_ret;exact⟨ret_bool (decide_eq_true HF.out).symm,Qt.drewN _ _⟩
 ·have hd:((xs.length:Int) != ys.length)=true:=by simp;omega
  have hf:¬ xs=ys:=by
   rintro rfl;exact hl rfl
  have HF:=hid hf;clear hl hf;go_enter Tryz.func96,Tryz.ntmps96;go_wp2;go_ret;exact⟨ret_bool (decide_eq_false HF.out).symm,Qt.refl _⟩
end Go.Proofs.YtlegfdllipkggaaGreatDoor
