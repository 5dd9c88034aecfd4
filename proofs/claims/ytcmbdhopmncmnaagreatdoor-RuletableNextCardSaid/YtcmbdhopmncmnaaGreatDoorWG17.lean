/-
  texts RVal11 RNx11 LawN11: parts of the proof; conditions stand with each theorem.
-/
import Derived.Test.YtcmbdhopmncmnaaGreatDoorWG16
import Derived.Test.YtcmbdhopmncmnaaGreatDoorWG4
import Derived.Test.YtcmbdhopmncmnaaGreatDoorWG18
import Derived.Test.YtcmbdhopmncmnaaGreatDoorWG15
namespace Go.Proofs.YtcmbdhopmncmnaaGreatDoor
open Lib(hid)
open Go.RowKit Go.Sort Go.Maps
set_option maxRecDepth 100000
set_option linter.unusedVariables false
set_option linter.unusedSimpArgs false
theorem firstD_drop {x:TabL}{inn:List Int}{rs:List Rw}{j:Nat}(h:j < rs.length):firstD x inn (rs.drop j)=if (rowD x inn rs[j]).2=true then some (rowD x inn rs[j]).1 else firstD x inn (rs.drop (j+1)):=by
 rw[List.drop_eq_getElem_cons h];rfl
set_option maxHeartbeats 16000000 in
theorem rval11_any (hA:Option Addr)(hc:Nat)(vA:Option Addr)(vc:Nat)(rA:Option Addr)(rc:Nat)(t:TabH)(iA:Option Addr)(ic:Nat)(inn:List Int)(w:World)(hT:TabR w hA vA rA t)(hr:rightTab t.tab=true)(hi:Ints w iA inn)(hl:inn.length=t.hood.length)(hst:∀ s ∈ inn,0≤s∧s < t.st) :
  Calls Tryz.prog 46 #[tabV hA hc vA vc rA rc t,.slice iA inn.length ic] w fun en w'=>en=.returned (.int .i64 (valT t.tab inn))∧Below w.heap.size w w':=by
 obtain⟨w0,hw0⟩:∃ w0,w0=w.alloc (.cells #[.int .i64 t.st,.int .i64 t.sym,.slice hA t.hood.length hc,.slice vA t.vs.length vc,.slice rA t.rs.length rc] 26):=⟨_,rfl⟩
 have hb0:Below w.heap.size w w0:=by rw[hw0];exact below_new _ _
 have p0:Blk w0 w.heap.size 26 #[.int .i64 t.st,.int .i64 t.sym,.slice hA t.hood.length hc,.slice vA t.vs.length vc,.slice rA t.rs.length rc]:=by rw[hw0];exact Blk.new _ _ _
 obtain⟨gT,hgT⟩:∃ g,g=w.heap.size:=⟨_,rfl⟩
 rw[← hgT] at p0;have HB0:=hid hb0;have HP:=hid p0;have HW0:=hid (And.intro hw0 hgT);have HI:=hid (hi.ext hb0);have HDEC:Hid (∀ (j:Nat) (h:j < t.rs.length) (W:World),Below w0.heap.size w0 W→Calls Tryz.prog 44 #[tabV hA hc vA vc rA rc t,.int .i64 (j:Int),.slice iA inn.length ic] W fun en w'=>en=.returned (.tuple #[.int .i64 (rowD t.tab inn (t.rs[j]'h).rw_).1,.bool (rowD t.tab inn (t.rs[j]'h).rw_).2])∧Below W.heap.size W w'):=hid (fun j h W hW=>rdec_any hA hc vA vc rA rc t j h iA ic inn W ((hT.ext hb0).ext hW) hr ((hi.ext hb0).ext hW) hl hst);have HCT:Hid (∀ W,Below w0.heap.size w0 W→Calls Tryz.prog 22 #[.slice hA t.hood.length hc] W fun e w'=>e=.returned (.int .i64 (ctrP t.hood))∧Below W.heap.size W w'):=hid (fun W hW=>rcentre_any hA t.hood hc W ((hT.ext hb0).hood.ext hW));have hh9:t.hood.length≤9223372036854775807:=hT.hood.le;have hr9:t.rs.length≤9223372036854775807:=hT.rows.le;have hi9:inn.length≤9223372036854775807:=hi.le;have HTB:Hid (t.tab.hood=t.hood∧t.tab.rows=t.rs.map Rh.rw_):=hid ⟨rfl,rfl⟩;have HL:=hid hl;obtain⟨TL,hTL⟩:∃ x,x=t.tab:=⟨_,rfl⟩
 rw[← hTL] at HDEC HTB ⊢;obtain⟨res,hres⟩:∃ r,r=valT TL inn:=⟨_,rfl⟩
 rw[← hres];unfold valT at hres;have HRES:=hid hres;obtain⟨st,sym,hood,vs,rs⟩:=t;unfold tabV at HDEC ⊢;dsimp only at HDEC HCT HP HW0 HTB HL hh9 hr9 ⊢;clear hb0 p0 hw0 hgT hT hr hi hl hst hTL hres;go_enter Tryz.func46,Tryz.ntmps46;go_upto_region 2 with fail
 rw[← HW0.out.1,← HW0.out.2];go_loopw [5] (fun iv wr=>∃ j:Nat,j≤rs.length∧iv=.int .i64 j∧Hid (Below w0.heap.size w0 wr)∧Hid (firstD TL inn TL.rows=firstD TL inn (TL.rows.drop j))) (fun iv _=>rs.length - (intOf iv).toNat)
 case atStart=>exact⟨0,Nat.zero_le _,rfl,hid (Below.refl _ _),hid rfl⟩
 case round=>
  obtain⟨j,hj,rfl,HBW,HT⟩:=hrel;have hpw:=HP.out.below HBW.out HP.out.lt;have x0:=hpw.cell_ 0 (.int .i64 st) rfl;have x1:=hpw.cell_ 1 (.int .i64 sym) rfl;have x2:=hpw.cell_ 2 (.slice hA hood.length hc) rfl;have x3:=hpw.cell_ 3 (.slice vA vs.length vc) rfl;have x4:=hpw.cell_ 4 (.slice rA rs.length rc) rfl;clear hpw;by_cases hjl:j < rs.length
  ·have hjr:j < TL.rows.length:=by rw[HTB.out.2,List.length_map];exact hjl
   have hstep:=HT.out.trans (firstD_drop (x:=TL) (inn:=inn) hjr);have hg:TL.rows[j]'hjr=(rs[j]'hjl).rw_:=by
    have h1:=HTB.out.2;have:TL.rows[j]?=some (rs[j]'hjl).rw_:=by rw[h1,List.getElem?_map,List.getElem?_eq_getElem hjl];rfl
    rw[List.getElem?_eq_getElem hjr] at this;exact Option.some.inj this
   rw[hg] at hstep;have hcall:=HDEC.out j hjl wr HBW.out;obtain⟨q,hq⟩:∃ q,q=rowD TL inn (rs[j]'hjl).rw_:=⟨_,rfl⟩
   rw[← hq] at hstep hcall;obtain⟨q1,q2⟩:=q;dsimp only at hstep hcall;have HST:=hid hstep;have HCALL:=hid hcall;have HJ:=hid hjl;have hwj:wrap64 ((j:Int)+1)=(j:Int)+1:=by unfold wrap64;omega
   have HWJ:=hid hwj;clear hj hjr hstep hg hcall hq hwj;go_wp2_with (go_at_call 44;refine HCALL.out.mono ?_;rintro en w2 ⟨rfl,hb2⟩;refine Hid.out ?_);refine hid ?_;have HB2:=hid (btr HBW.out hb2);clear hb2 x0 x1 x2 x3 x4 HCALL;cases q2 with
   | true=>
    have HF:Hid (res=q1):=hid (by rw[HRES.out,HST.out,if_pos rfl]);go_wp2;go_ret;exact⟨ret_int HF.out.symm,HB0.out.trans (HB2.out.mono HB0.out.size)⟩
   | false=>
    have HT2:Hid (firstD TL inn TL.rows=firstD TL inn (TL.rows.drop (j+1))):=hid (by rw[HST.out,if_neg Bool.false_ne_true]);go_wp2;go_roundw
    case rel=>exact⟨j+1,HJ.out,(by first | rfl | (rw[HWJ.out];rfl)),HB2,HT2⟩
    case measure=>(try rw[HWJ.out]);exact meas_step HJ.out
  ·obtain rfl:j=rs.length:=Nat.le_antisymm hj (Nat.le_of_not_lt hjl);have hno:firstD TL inn TL.rows=none:=by rw[HT.out,List.drop_of_length_le (by rw[HTB.out.2,List.length_map];exact Nat.le_refl _)];rfl
   have HR2:Hid (res=if 0≤ctrP hood then inn.getD (ctrP hood).toNat 0 else 0):=hid (by rw[HRES.out,hno,HTB.out.1]);have HCALL:=hid (HCT.out wr HBW.out);have hcl:=ctr_lt15 hood;obtain⟨c,hcc⟩:∃ c,c=ctrP hood:=⟨_,rfl⟩
   rw[← hcc] at HCALL HR2 hcl;have HCL:=hid hcl;clear hj hjl hno hcl hcc;go_wp2_with (go_at_call 22;refine HCALL.out.mono ?_;rintro en w3 ⟨rfl,hb3⟩;refine Hid.out ?_);refine hid ?_;have HB3:=hid (btr HBW.out hb3);clear hb3 x0 x1 x2 x3 x4 HCALL;by_cases hc0:0≤c
   ·have d0:decide (0≤c)=true:=decide_eq_true hc0;have hcn:c.toNat < inn.length:=by
     rcases HCL.out with h | ⟨-,h⟩
     ·omega
     ·rw[HL.out];exact h
    obtain⟨n,rfl⟩:∃ n:Nat,c=(n:Int):=⟨c.toNat,by omega⟩
    rw[Int.toNat_natCast] at hcn;obtain⟨ib,io,ei,-,hci⟩:=(HI.out.ext HB3.out).at_ hcn;have hg:inn.getD n 0=inn[n]'hcn:=by rw[List.getD_eq_getElem?_getD,List.getElem?_eq_getElem hcn];rfl
    have HF:Hid (res=inn[n]'hcn):=hid (by rw[HR2.out,if_pos hc0,Int.toNat_natCast,hg]);obtain⟨z,hz⟩:∃ z,z=inn[n]'hcn:=⟨_,rfl⟩
    rw[← hz] at hci HF;subst ei;clear hc0 hg hz;go_wp2;go_ret;exact⟨ret_int HF.out.symm,HB0.out.trans (HB3.out.mono HB0.out.size)⟩
   ·have d0:decide (0≤c)=false:=decide_eq_false hc0;have HF:Hid (res=0):=hid (by rw[HR2.out,if_neg hc0]);clear hc0;go_wp2;go_ret;exact⟨ret_int HF.out.symm,HB0.out.trans (HB3.out.mono HB0.out.size)⟩
end Go.Proofs.YtcmbdhopmncmnaaGreatDoor
namespace Go.Proofs.YtcmbdhopmncmnaaGreatDoor
open Lib(hid)
open Go.RowKit
set_option maxRecDepth 100000
set_option linter.unusedVariables false
set_option linter.unusedSimpArgs false
theorem statesB_no {st:Int}{inn:List Int}{i:Nat}(h:i < inn.length)(h2:inn[i] < 0∨st≤inn[i]):statesB st inn=false:=by
 cases hb:statesB st inn with
 | false=>rfl
 | true=>
  have:=statesB_mem hb _ (List.getElem_mem h);omega
theorem statesB_all {st:Int}{inn:List Int}(h:∀ s ∈ inn,0≤s∧s < st):statesB st inn=true:=by
 unfold statesB;have:inn.any (badS st)=false:=List.any_eq_false.2 (fun s hs=>by
  have:=h s hs;unfold badS
  simp
  omega)
 rw[this];rfl
theorem lt_snoc {P:Int→Prop}{l:List Int}{i:Nat}(h:∀ s ∈ l.take i,P s)(hi:i < l.length)(h2:P l[i]):∀ s ∈ l.take (i+1),P s:=fun s hs=>by
 rw[List.take_succ_eq_append_getElem hi,List.mem_append,List.mem_singleton] at hs;rcases hs with hs | rfl
 ·exact h s hs
 ·exact h2
set_option maxHeartbeats 8000000 in
theorem rstates_any (hA:Option Addr)(hc:Nat)(vA:Option Addr)(vc:Nat)(rA:Option Addr)(rc:Nat)(t:TabH)(iA:Option Addr)(ic:Nat)(inn:List Int)(w:World)(hi:Ints w iA inn) :
  Calls Tryz.prog 43 #[tabV hA hc vA vc rA rc t,.slice iA inn.length ic] w fun e w'=>e=.returned (.bool (statesB t.st inn && decide (inn.length=t.hood.length)))∧Below w.heap.size w w':=by
 obtain⟨w0,hw0⟩:∃ w0,w0=w.alloc (.cells #[.int .i64 t.st,.int .i64 t.sym,.slice hA t.hood.length hc,.slice vA t.vs.length vc,.slice rA t.rs.length rc] 26):=⟨_,rfl⟩
 have hb0:Below w.heap.size w w0:=by rw[hw0];exact below_new _ _
 have p0:Blk w0 w.heap.size 26 #[.int .i64 t.st,.int .i64 t.sym,.slice hA t.hood.length hc,.slice vA t.vs.length vc,.slice rA t.rs.length rc]:=by rw[hw0];exact Blk.new _ _ _
 obtain⟨P,hPe⟩:∃ P,P=w.heap.size:=⟨_,rfl⟩
 rw[← hPe] at p0;have hi9:inn.length≤9223372036854775807:=hi.le;have HIN:=hid (hi.ext hb0);have HB0:=hid hb0;have HPP:=hid p0;have HPE:=hid hPe;have HW0:=hid hw0;obtain⟨st,sym,hood,vs,rs⟩:=t;dsimp only at HPP HW0 ⊢;unfold tabV;dsimp only;have HI9:=hid hi9;clear hb0 p0 hw0 hPe hi;go_enter Tryz.func43,Tryz.ntmps43;go_upto_region 1 with fail
 rw[← HW0.out,← HPE.out];go_wp2;go_loopw [5] (fun iv wr=>∃ i:Nat,i≤inn.length∧iv=.int .i64 i∧Hid (Below w0.heap.size w0 wr)∧Hid (∀ s ∈ inn.take i,0≤s∧s < st)) (fun iv _=>inn.length - (intOf iv).toNat)
 case atStart=>exact⟨0,Nat.zero_le _,rfl,hid (Below.refl _ _),hid (fun s hs=>by simp at hs)⟩
 case round=>
  obtain⟨i,hi,rfl,HBI,HS⟩:=hrel;by_cases hil:i < inn.length
  ·obtain⟨b,o,e,-,kc⟩:=(HIN.out.ext HBI.out).at_ hil;subst e;have x0:=(HPP.out.below HBI.out HPP.out.lt).cell_ 0 (.int .i64 st) rfl;have HNO:Hid ((inn[i]'hil < 0∨st≤inn[i]'hil)→statesB st inn=false):=hid (fun h=>statesB_no hil h);have HYS:Hid (0≤inn[i]'hil∧inn[i]'hil < st→∀ s ∈ inn.take (i+1),0≤s∧s < st):=hid (fun h=>lt_snoc HS.out hil h);obtain⟨z,hz⟩:∃ z,z=inn[i]'hil:=⟨_,rfl⟩
   rw[← hz] at kc HNO HYS;have hiI:=lt_ii hil;have hwi:=wrap_9 hil HI9.out;have HWI:=hid hwi;have HI:=hid hil;clear hz hi hil;by_cases h0:z < 0
   ·have HF:=hid (HNO.out (.inl h0));go_wp2;go_quiet (fail)
    have HBN:=hid (below_drewN HBI.out nq);go_wp2;go_ret;rw[HF.out];exact⟨rfl,HB0.out.trans (HBN.out.mono HB0.out.size)⟩
   ·by_cases h1:st≤z
    ·have HF:=hid (HNO.out (.inr h1));go_wp2;go_quiet (fail)
     have HBN:=hid (below_drewN HBI.out nq);go_wp2;go_ret;rw[HF.out];exact⟨rfl,HB0.out.trans (HBN.out.mono HB0.out.size)⟩
    ·have HS2:=hid (HYS.out ⟨Int.not_lt.1 h0,Int.not_le.1 h1⟩);go_wp2;go_quiet (fail)
     have HBN:=hid (below_drewN HBI.out nq);go_wp2;go_roundw
     case rel=>exact⟨i+1,HI.out,(by first | rfl | (rw[HWI.out];done) | (rw[HWI.out];rfl)),HBN,HS2⟩
     case measure=>(try rw[HWI.out]);exact meas11 HI.out
  ·obtain rfl:i=inn.length:=Nat.le_antisymm hi (Nat.le_of_not_lt hil);have HT:Hid (statesB st inn=true):=hid (statesB_all (by have h:=HS.out;rwa [List.take_length] at h));have x2:=(HPP.out.below HBI.out HPP.out.lt).cell_ 2 (.slice hA hood.length hc) rfl;have hge:¬ (inn.length:Int) < (inn.length:Int):=Int.lt_irrefl _;have heq:((inn.length:Int) == (hood.length:Int))=decide (inn.length=hood.length):=by
    by_cases h:inn.length=hood.length
    ·rw[decide_eq_true h,beq_iff_eq,h]
    ·rw[decide_eq_false h];exact beq_false_of_ne (fun e=>h (by omega))
   have HEQ:=hid heq;clear hi hil HS heq;go_wp2;go_ret;rw[HT.out,← HEQ.out];exact⟨rfl,HB0.out.trans (HBI.out.mono HB0.out.size)⟩
set_option maxHeartbeats 16000000 in
theorem rnext11_any (hA:Option Addr)(hc:Nat)(vA:Option Addr)(vc:Nat)(rA:Option Addr)(rc:Nat)(t:TabH)(iA:Option Addr)(ic:Nat)(inn:List Int)(w:World)(hT:TabR w hA vA rA t)(hi:Ints w iA inn) :
  Calls Tryz.prog 17 #[tabV hA hc vA vc rA rc t,.slice iA inn.length ic] w fun en w'=>en=.returned (.tuple #[.int .i64 (nextT t.tab inn).1,.int .i64 (nextT t.tab inn).2])∧Below w.heap.size w w':=by
 obtain⟨w0,hw0⟩:∃ w0,w0=w.alloc (.cells #[.int .i64 t.st,.int .i64 t.sym,.slice hA t.hood.length hc,.slice vA t.vs.length vc,.slice rA t.rs.length rc] 26):=⟨_,rfl⟩
 have hb0:Below w.heap.size w w0:=by rw[hw0];exact below_new _ _
 have p0:Blk w0 w.heap.size 26 #[.int .i64 t.st,.int .i64 t.sym,.slice hA t.hood.length hc,.slice vA t.vs.length vc,.slice rA t.rs.length rc]:=by rw[hw0];exact Blk.new _ _ _
 obtain⟨P,hPe⟩:∃ P,P=w.heap.size:=⟨_,rfl⟩
 rw[← hPe] at p0;have hh9:t.hood.length≤9223372036854775807:=hT.hood.le;have hr9:t.rs.length≤9223372036854775807:=hT.rows.le;have hi9:inn.length≤9223372036854775807:=hi.le;have HR:=hid (rright11_any hA hc vA vc rA rc t w0 (hT.ext hb0));have HST:Hid (∀ W,Below w0.heap.size w0 W→Calls Tryz.prog 43 #[tabV hA hc vA vc rA rc t,.slice iA inn.length ic] W fun e w'=>e=.returned (.bool (statesB t.st inn && decide (inn.length=t.hood.length)))∧Below W.heap.size W w'):=hid (fun W hW=>rstates_any hA hc vA vc rA rc t iA ic inn W ((hi.ext hb0).ext hW));have HVL:Hid (rightTab t.tab=true→inn.length=t.hood.length→statesB t.st inn=true→∀ W,Below w0.heap.size w0 W→Calls Tryz.prog 46 #[tabV hA hc vA vc rA rc t,.slice iA inn.length ic] W fun en w'=>en=.returned (.int .i64 (valT t.tab inn))∧Below W.heap.size W w'):=hid (fun hr hl hs W hW=>rval11_any hA hc vA vc rA rc t iA ic inn W ((hT.ext hb0).ext hW) hr ((hi.ext hb0).ext hW) hl (statesB_mem hs));obtain⟨TL,hTL⟩:∃ x,x=t.tab:=⟨_,rfl⟩
 have htl:TL.hood=t.hood∧TL.st=t.st:=by rw[hTL];exact⟨rfl,rfl⟩
 rw[← hTL] at HR HVL ⊢;have HTL:=hid htl;have HB0:=hid hb0;have HPP:=hid p0;have HPE:=hid hPe;have HW0:=hid hw0;obtain⟨n1,hn1⟩:∃ n,n=nextT TL inn:=⟨_,rfl⟩
 rw[← hn1];unfold nextT at hn1;have HN:=hid hn1;obtain⟨st,sym,hood,vs,rs⟩:=t;unfold tabV at HR HST HVL ⊢;dsimp only at HR HST HVL HPP HW0 HTL hh9 hr9 ⊢;have x0:=HPP.out.cell_ 0 (.int .i64 st) rfl;have x1:=HPP.out.cell_ 1 (.int .i64 sym) rfl;have x2:=HPP.out.cell_ 2 (.slice hA hood.length hc) rfl;have x3:=HPP.out.cell_ 3 (.slice vA vs.length vc) rfl;have x4:=HPP.out.cell_ 4 (.slice rA rs.length rc) rfl;clear hw0 hb0 p0 hPe hT hi hTL htl hn1;cases hr:rightTab TL with
 | false=>
  have HE:Hid (n1=(0,2)):=hid (by rw[HN.out,if_pos (.inl hr)]);rw[hr] at HR;clear hr;go_enter Tryz.func17,Tryz.ntmps17;go_upto_region 1 with fail
  rw[← HW0.out,← HPE.out];go_wp2_with (go_at_call 11;refine HR.out.mono ?_;rintro e w1 ⟨rfl,hb1⟩;refine Hid.out ?_);refine hid ?_;have HB1:=hid hb1;have HP1:=hid (HPP.out.below hb1 HPP.out.lt);clear hb1 x0 x1 x2 x3 x4 HR;have x0:=HP1.out.cell_ 0 (.int .i64 st) rfl;have x1:=HP1.out.cell_ 1 (.int .i64 sym) rfl;have x2:=HP1.out.cell_ 2 (.slice hA hood.length hc) rfl;have x3:=HP1.out.cell_ 3 (.slice vA vs.length vc) rfl;have x4:=HP1.out.cell_ 4 (.slice rA rs.length rc) rfl;go_wp2;go_ret2;rw[HE.out];exact⟨rfl,HB0.out.trans (HB1.out.mono HB0.out.size)⟩
 | true=>
  rw[hr] at HR;by_cases hl:inn.length=hood.length
  ·have dl:=(bne_nn (a:=inn.length) (b:=hood.length)).1 hl;cases hs:statesB st inn with
   | false=>
    have HE:Hid (n1=(0,10)):=hid (by rw[HN.out,if_neg (by rintro (h | h);(rw[hr] at h;cases h);exact h (by rw[HTL.out.1];exact hl)),HTL.out.2,if_pos hs]);rw[hs] at HST;clear hr hl hs;go_enter Tryz.func17,Tryz.ntmps17;go_upto_region 1 with fail
    rw[← HW0.out,← HPE.out];go_wp2_with (go_at_call 11;refine HR.out.mono ?_;rintro e w1 ⟨rfl,hb1⟩;refine Hid.out ?_);refine hid ?_;have HB1:=hid hb1;have HP1:=hid (HPP.out.below hb1 HPP.out.lt);clear hb1 x0 x1 x2 x3 x4 HR;have x0:=HP1.out.cell_ 0 (.int .i64 st) rfl;have x1:=HP1.out.cell_ 1 (.int .i64 sym) rfl;have x2:=HP1.out.cell_ 2 (.slice hA hood.length hc) rfl;have x3:=HP1.out.cell_ 3 (.slice vA vs.length vc) rfl;have x4:=HP1.out.cell_ 4 (.slice rA rs.length rc) rfl;go_wp2_with (go_at_call 43;refine (HST.out w1 HB1.out).mono ?_;rintro e w2 ⟨rfl,hb2⟩;refine Hid.out ?_);refine hid ?_;have HB2:=hid hb2;have HP2:=hid (HP1.out.below hb2 HP1.out.lt);clear hb2 x0 x1 x2 x3 x4;have x0:=HP2.out.cell_ 0 (.int .i64 st) rfl;have x1:=HP2.out.cell_ 1 (.int .i64 sym) rfl;have x2:=HP2.out.cell_ 2 (.slice hA hood.length hc) rfl;have x3:=HP2.out.cell_ 3 (.slice vA vs.length vc) rfl;have x4:=HP2.out.cell_ 4 (.slice rA rs.length rc) rfl;go_wp2;go_ret2;rw[HE.out];exact⟨rfl,HB0.out.trans ((HB1.out.trans (HB2.out.mono HB1.out.size)).mono HB0.out.size)⟩
   | true=>
    have HE:Hid (n1=(valT TL inn,0)):=hid (by rw[HN.out,if_neg (by rintro (h | h);(rw[hr] at h;cases h);exact h (by rw[HTL.out.1];exact hl)),HTL.out.2,if_neg (by rw[hs];simp)]);have HVC:=hid (HVL.out hr hl hs);rw[hs,decide_eq_true hl] at HST;clear hr hl hs HVL;go_enter Tryz.func17,Tryz.ntmps17;go_upto_region 1 with fail
    rw[← HW0.out,← HPE.out];go_wp2_with (go_at_call 11;refine HR.out.mono ?_;rintro e w1 ⟨rfl,hb1⟩;refine Hid.out ?_);refine hid ?_;have HB1:=hid hb1;have HP1:=hid (HPP.out.below hb1 HPP.out.lt);clear hb1 x0 x1 x2 x3 x4 HR;have x0:=HP1.out.cell_ 0 (.int .i64 st) rfl;have x1:=HP1.out.cell_ 1 (.int .i64 sym) rfl;have x2:=HP1.out.cell_ 2 (.slice hA hood.length hc) rfl;have x3:=HP1.out.cell_ 3 (.slice vA vs.length vc) rfl;have x4:=HP1.out.cell_ 4 (.slice rA rs.length rc) rfl;go_wp2_with (go_at_call 43;refine (HST.out w1 HB1.out).mono ?_;rintro e w2 ⟨rfl,hb2⟩;refine Hid.out ?_);refine hid ?_;have HB2:=hid hb2;have HP2:=hid (HP1.out.below hb2 HP1.out.lt);clear hb2 x0 x1 x2 x3 x4;have x0:=HP2.out.cell_ 0 (.int .i64 st) rfl;have x1:=HP2.out.cell_ 1 (.int .i64 sym) rfl;have x2:=HP2.out.cell_ 2 (.slice hA hood.length hc) rfl;have x3:=HP2.out.cell_ 3 (.slice vA vs.length vc) rfl;have x4:=HP2.out.cell_ 4 (.slice rA rs.length rc) rfl;go_wp2_with (go_at_call 46;refine (HVC.out w2 (HB1.out.trans (HB2.out.mono HB1.out.size))).mono ?_;rintro e w3 ⟨rfl,hb3⟩;refine Hid.out ?_);refine hid ?_;have HB3:=hid hb3;clear hb3 x0 x1 x2 x3 x4;go_wp2;go_ret2;rw[HE.out];exact⟨rfl,HB0.out.trans ((HB1.out.trans ((HB2.out.trans (HB3.out.mono HB2.out.size)).mono HB1.out.size)).mono HB0.out.size)⟩
  ·have dl:=(bne_nn (a:=inn.length) (b:=hood.length)).2 hl;have HE:Hid (n1=(0,2)):=hid (by rw[HN.out,if_pos (.inr (by rw[HTL.out.1];exact hl))]);clear hr hl;go_enter Tryz.func17,Tryz.ntmps17;go_upto_region 1 with fail
   rw[← HW0.out,← HPE.out];go_wp2_with (go_at_call 11;refine HR.out.mono ?_;rintro e w1 ⟨rfl,hb1⟩;refine Hid.out ?_);refine hid ?_;have HB1:=hid hb1;have HP1:=hid (HPP.out.below hb1 HPP.out.lt);clear hb1 x0 x1 x2 x3 x4 HR;have x0:=HP1.out.cell_ 0 (.int .i64 st) rfl;have x1:=HP1.out.cell_ 1 (.int .i64 sym) rfl;have x2:=HP1.out.cell_ 2 (.slice hA hood.length hc) rfl;have x3:=HP1.out.cell_ 3 (.slice vA vs.length vc) rfl;have x4:=HP1.out.cell_ 4 (.slice rA rs.length rc) rfl;go_wp2;go_ret2;rw[HE.out];exact⟨rfl,HB0.out.trans (HB1.out.mono HB0.out.size)⟩
set_option maxHeartbeats 16000000 in
theorem rmatch11_any (hA:Option Addr)(hc:Nat)(vA:Option Addr)(vc:Nat)(rA:Option Addr)(rc:Nat)(t:TabH)(row:Int)(iA:Option Addr)(ic:Nat)(inn:List Int)(w:World)(hT:TabR w hA vA rA t)(hi:Ints w iA inn) :
  Calls Tryz.prog 15 #[tabV hA hc vA vc rA rc t,.int .i64 row,.slice iA inn.length ic] w fun en w'=>en=.returned (.tuple #[.int .i64 (matchT t.tab row inn).1,.bool (matchT t.tab row inn).2])∧Below w.heap.size w w':=by
 obtain⟨w0,hw0⟩:∃ w0,w0=w.alloc (.cells #[.int .i64 t.st,.int .i64 t.sym,.slice hA t.hood.length hc,.slice vA t.vs.length vc,.slice rA t.rs.length rc] 26):=⟨_,rfl⟩
 have hb0:Below w.heap.size w w0:=by rw[hw0];exact below_new _ _
 have p0:Blk w0 w.heap.size 26 #[.int .i64 t.st,.int .i64 t.sym,.slice hA t.hood.length hc,.slice vA t.vs.length vc,.slice rA t.rs.length rc]:=by rw[hw0];exact Blk.new _ _ _
 obtain⟨P,hPe⟩:∃ P,P=w.heap.size:=⟨_,rfl⟩
 rw[← hPe] at p0;have hh9:t.hood.length≤9223372036854775807:=hT.hood.le;have hr9:t.rs.length≤9223372036854775807:=hT.rows.le;have hi9:inn.length≤9223372036854775807:=hi.le;have HR:=hid (rright11_any hA hc vA vc rA rc t w0 (hT.ext hb0));have HST:Hid (∀ W,Below w0.heap.size w0 W→Calls Tryz.prog 43 #[tabV hA hc vA vc rA rc t,.slice iA inn.length ic] W fun e w'=>e=.returned (.bool (statesB t.st inn && decide (inn.length=t.hood.length)))∧Below W.heap.size W w'):=hid (fun W hW=>rstates_any hA hc vA vc rA rc t iA ic inn W ((hi.ext hb0).ext hW));have HVL:Hid (rightTab t.tab=true→inn.length=t.hood.length→statesB t.st inn=true→∀ (i:Nat) (hil:i < t.rs.length) W,Below w0.heap.size w0 W→Calls Tryz.prog 44 #[tabV hA hc vA vc rA rc t,.int .i64 (i:Int),.slice iA inn.length ic] W fun en w'=>en=.returned (.tuple #[.int .i64 (rowD t.tab inn (t.tab.rows.getD i ([],0))).1,.bool (rowD t.tab inn (t.tab.rows.getD i ([],0))).2])∧Below W.heap.size W w'):=hid (fun hr hl hs i hil W hW=>by
  have h:=rdec_any hA hc vA vc rA rc t i hil iA ic inn W ((hT.ext hb0).ext hW) hr ((hi.ext hb0).ext hW) hl (statesB_mem hs);have e:t.tab.rows.getD i ([],0)=(t.rs[i]'hil).rw_:=by
   unfold TabH.tab;rw[List.getD_eq_getElem?_getD,List.getElem?_map,List.getElem?_eq_getElem hil];rfl
  rw[e];exact h)
 obtain⟨TL,hTL⟩:∃ x,x=t.tab:=⟨_,rfl⟩
 have htl:TL.hood=t.hood∧TL.st=t.st∧TL.rows.length=t.rs.length:=by rw[hTL];exact⟨rfl,rfl,by unfold TabH.tab;rw[List.length_map]⟩
 rw[← hTL] at HR HVL ⊢;have HTL:=hid htl;have HB0:=hid hb0;have HPP:=hid p0;have HPE:=hid hPe;have HW0:=hid hw0;obtain⟨n1,hn1⟩:∃ n,n=matchT TL row inn:=⟨_,rfl⟩
 rw[← hn1];unfold matchT at hn1;have HN:=hid hn1;obtain⟨st,sym,hood,vs,rs⟩:=t;unfold tabV at HR HST HVL ⊢;dsimp only at HR HST HVL HPP HW0 HTL hh9 hr9 ⊢;have x0:=HPP.out.cell_ 0 (.int .i64 st) rfl;have x1:=HPP.out.cell_ 1 (.int .i64 sym) rfl;have x2:=HPP.out.cell_ 2 (.slice hA hood.length hc) rfl;have x3:=HPP.out.cell_ 3 (.slice vA vs.length vc) rfl;have x4:=HPP.out.cell_ 4 (.slice rA rs.length rc) rfl;clear hw0 hb0 p0 hPe hT hi hTL htl hn1;cases hr:rightTab TL with
 | false=>
  have HE:Hid (n1=(0,false)):=hid (by rw[HN.out,if_pos (.inl hr)]);rw[hr] at HR;clear hr;go_enter Tryz.func15,Tryz.ntmps15;go_upto_region 1 with fail
  rw[← HW0.out,← HPE.out];go_wp2_with (go_at_call 11;refine HR.out.mono ?_;rintro e w1 ⟨rfl,hb1⟩;refine Hid.out ?_);refine hid ?_;have HB1:=hid hb1;have HP1:=hid (HPP.out.below hb1 HPP.out.lt);clear hb1 x0 x1 x2 x3 x4 HR;have x0:=HP1.out.cell_ 0 (.int .i64 st) rfl;have x1:=HP1.out.cell_ 1 (.int .i64 sym) rfl;have x2:=HP1.out.cell_ 2 (.slice hA hood.length hc) rfl;have x3:=HP1.out.cell_ 3 (.slice vA vs.length vc) rfl;have x4:=HP1.out.cell_ 4 (.slice rA rs.length rc) rfl;go_wp2;go_ret2;rw[HE.out];exact⟨rfl,HB0.out.trans (HB1.out.mono HB0.out.size)⟩
 | true=>
  rw[hr] at HR;by_cases h0:row < 0
  ·have HE:Hid (n1=(0,false)):=hid (by rw[HN.out,if_pos (.inr (.inl h0))]);have q0:decide (row < 0)=true:=decide_eq_true h0;clear hr;go_enter Tryz.func15,Tryz.ntmps15;go_upto_region 1 with fail
   rw[← HW0.out,← HPE.out];go_wp2_with (go_at_call 11;refine HR.out.mono ?_;rintro e w1 ⟨rfl,hb1⟩;refine Hid.out ?_);refine hid ?_;have HB1:=hid hb1;have HP1:=hid (HPP.out.below hb1 HPP.out.lt);clear hb1 x0 x1 x2 x3 x4 HR;have x0:=HP1.out.cell_ 0 (.int .i64 st) rfl;have x1:=HP1.out.cell_ 1 (.int .i64 sym) rfl;have x2:=HP1.out.cell_ 2 (.slice hA hood.length hc) rfl;have x3:=HP1.out.cell_ 3 (.slice vA vs.length vc) rfl;have x4:=HP1.out.cell_ 4 (.slice rA rs.length rc) rfl;go_wp2;go_ret2;rw[HE.out];exact⟨rfl,HB0.out.trans (HB1.out.mono HB0.out.size)⟩
  have q0:decide (row < 0)=false:=decide_eq_false h0;by_cases h1:(rs.length:Int)≤row
  ·have HE:Hid (n1=(0,false)):=hid (by rw[HN.out,if_pos (.inr (.inr (.inl (by rw[HTL.out.2.2];exact h1))))]);have q1:decide ((rs.length:Int)≤row)=true:=decide_eq_true h1;clear hr;go_enter Tryz.func15,Tryz.ntmps15;go_upto_region 1 with fail
   rw[← HW0.out,← HPE.out];go_wp2_with (go_at_call 11;refine HR.out.mono ?_;rintro e w1 ⟨rfl,hb1⟩;refine Hid.out ?_);refine hid ?_;have HB1:=hid hb1;have HP1:=hid (HPP.out.below hb1 HPP.out.lt);clear hb1 x0 x1 x2 x3 x4 HR;have x0:=HP1.out.cell_ 0 (.int .i64 st) rfl;have x1:=HP1.out.cell_ 1 (.int .i64 sym) rfl;have x2:=HP1.out.cell_ 2 (.slice hA hood.length hc) rfl;have x3:=HP1.out.cell_ 3 (.slice vA vs.length vc) rfl;have x4:=HP1.out.cell_ 4 (.slice rA rs.length rc) rfl;go_wp2;go_ret2;rw[HE.out];exact⟨rfl,HB0.out.trans (HB1.out.mono HB0.out.size)⟩
  have q1:decide ((rs.length:Int)≤row)=false:=decide_eq_false h1;by_cases hb:(statesB st inn && decide (inn.length=hood.length))=true
  ·have hb2:=hb;rw[Bool.and_eq_true,decide_eq_true_eq] at hb2;obtain⟨hs,hl⟩:=hb2;have HE:Hid (n1=rowD TL inn (TL.rows.getD row.toNat ([],0))):=hid (by
    rw[HN.out,if_neg];rintro (h | h | h | h | h)
    ·rw[hr] at h;cases h
    ·exact h0 h
    ·exact h1 (by rw[← HTL.out.2.2];exact h)
    ·exact h (by rw[HTL.out.1];exact hl)
    ·rw[HTL.out.2.1,hs] at h;cases h)
   have hrn:((row.toNat:Nat):Int)=row:=by omega
   have hlt:row.toNat < rs.length:=by omega
   have hVC:=HVL.out hr hl hs row.toNat hlt;rw[hrn] at hVC;have HVC:=hid hVC;rw[hb] at HST;clear hr hl hs HVL hVC hrn hlt hb;go_enter Tryz.func15,Tryz.ntmps15;go_upto_region 1 with fail
   rw[← HW0.out,← HPE.out];go_wp2_with (go_at_call 11;refine HR.out.mono ?_;rintro e w1 ⟨rfl,hb1⟩;refine Hid.out ?_);refine hid ?_;have HB1:=hid hb1;have HP1:=hid (HPP.out.below hb1 HPP.out.lt);clear hb1 x0 x1 x2 x3 x4 HR;have x0:=HP1.out.cell_ 0 (.int .i64 st) rfl;have x1:=HP1.out.cell_ 1 (.int .i64 sym) rfl;have x2:=HP1.out.cell_ 2 (.slice hA hood.length hc) rfl;have x3:=HP1.out.cell_ 3 (.slice vA vs.length vc) rfl;have x4:=HP1.out.cell_ 4 (.slice rA rs.length rc) rfl;go_wp2_with (go_at_call 43;refine (HST.out w1 HB1.out).mono ?_;rintro e w2 ⟨rfl,hb2⟩;refine Hid.out ?_);refine hid ?_;have HB2:=hid hb2;have HP2:=hid (HP1.out.below hb2 HP1.out.lt);clear hb2 x0 x1 x2 x3 x4;have x0:=HP2.out.cell_ 0 (.int .i64 st) rfl;have x1:=HP2.out.cell_ 1 (.int .i64 sym) rfl;have x2:=HP2.out.cell_ 2 (.slice hA hood.length hc) rfl;have x3:=HP2.out.cell_ 3 (.slice vA vs.length vc) rfl;have x4:=HP2.out.cell_ 4 (.slice rA rs.length rc) rfl;go_wp2_with (go_at_call 44;refine (HVC.out w2 (HB1.out.trans (HB2.out.mono HB1.out.size))).mono ?_;rintro e w3 ⟨rfl,hb3⟩;refine Hid.out ?_);refine hid ?_;have HB3:=hid hb3;clear hb3 x0 x1 x2 x3 x4;go_wp2;go_ret2;rw[HE.out];exact⟨rfl,HB0.out.trans ((HB1.out.trans ((HB2.out.trans (HB3.out.mono HB2.out.size)).mono HB1.out.size)).mono HB0.out.size)⟩
  ·have hbf:(statesB st inn && decide (inn.length=hood.length))=false:=Bool.eq_false_iff.2 hb;have HE:Hid (n1=(0,false)):=hid (by
    rw[HN.out,if_pos];by_cases hl:inn.length=hood.length
    ·rw[decide_eq_true hl,Bool.and_true] at hbf;exact .inr (.inr (.inr (.inr (by rw[HTL.out.2.1];exact hbf))))
    ·exact .inr (.inr (.inr (.inl (by rw[HTL.out.1];exact hl)))))
   rw[hbf] at HST;clear hr hb hbf;go_enter Tryz.func15,Tryz.ntmps15;go_upto_region 1 with fail
   rw[← HW0.out,← HPE.out];go_wp2_with (go_at_call 11;refine HR.out.mono ?_;rintro e w1 ⟨rfl,hb1⟩;refine Hid.out ?_);refine hid ?_;have HB1:=hid hb1;have HP1:=hid (HPP.out.below hb1 HPP.out.lt);clear hb1 x0 x1 x2 x3 x4 HR;have x0:=HP1.out.cell_ 0 (.int .i64 st) rfl;have x1:=HP1.out.cell_ 1 (.int .i64 sym) rfl;have x2:=HP1.out.cell_ 2 (.slice hA hood.length hc) rfl;have x3:=HP1.out.cell_ 3 (.slice vA vs.length vc) rfl;have x4:=HP1.out.cell_ 4 (.slice rA rs.length rc) rfl;go_wp2_with (go_at_call 43;refine (HST.out w1 HB1.out).mono ?_;rintro e w2 ⟨rfl,hb2⟩;refine Hid.out ?_);refine hid ?_;have HB2:=hid hb2;have HP2:=hid (HP1.out.below hb2 HP1.out.lt);clear hb2 x0 x1 x2 x3 x4;have x0:=HP2.out.cell_ 0 (.int .i64 st) rfl;have x1:=HP2.out.cell_ 1 (.int .i64 sym) rfl;have x2:=HP2.out.cell_ 2 (.slice hA hood.length hc) rfl;have x3:=HP2.out.cell_ 3 (.slice vA vs.length vc) rfl;have x4:=HP2.out.cell_ 4 (.slice rA rs.length rc) rfl;go_wp2;go_ret2;rw[HE.out];exact⟨rfl,HB0.out.trans ((HB1.out.trans (HB2.out.mono HB1.out.size)).mono HB0.out.size)⟩
end Go.Proofs.YtcmbdhopmncmnaaGreatDoor
namespace Go.Proofs.YtcmbdhopmncmnaaGreatDoor
open Lib(hid)
open Go.RowKit Go.Maps
set_option maxRecDepth 100000
set_option linter.unusedVariables false
set_option linter.unusedSimpArgs false
set_option maxHeartbeats 16000000 in
theorem lawNext_any (hA:Option Addr)(hc:Nat)(vA:Option Addr)(vc:Nat)(rA:Option Addr)(rc:Nat)(t:TabH)(row:Int)(iA:Option Addr)(ic:Nat)(inn:List Int)(w:World)(hr:TabR w hA vA rA t)(he:Env w)(hi:Ints w iA inn) :
  Calls Tryz.prog 4 #[.agg #[.int .i64 t.st,.int .i64 t.sym,.slice hA t.hood.length hc,.slice vA t.vs.length vc,.slice rA t.rs.length rc],.int .i64 row,.slice iA inn.length ic] w fun e w'=>e=.returned (.bool true)∧Below w.heap.size w w':=by
 have HENV:=hid he;have HI:=hid hi;have HB:Hid (Below w.heap.size w w):=hid (Below.refl _ _);clear he hi;obtain⟨mt,hmt⟩:∃ r,r=matchT t.tab row inn:=⟨_,rfl⟩
 have HMT:=hid hmt.symm;obtain⟨nt,hnt⟩:∃ r,r=nextT t.tab inn:=⟨_,rfl⟩
 have HNT:=hid hnt.symm;clear hmt hnt;obtain⟨ma,mo⟩:=mt;obtain⟨na,nb⟩:=nt;have go30:inn.length≤30→decide ((30:Int) < inn.length)=false:=fun h=>decide_eq_false (by omega);have no30:¬ inn.length≤30→decide ((30:Int) < inn.length)=true:=fun h=>decide_eq_true (by omega);cases hf:few11 t.tab with
 | false=>
  have HFT:=hid hf;clear hf go30 no30;go_enter Tryz.func4,Tryz.ntmps4;obtain⟨zT,hw⟩:∃ W,W=w.alloc (.cells #[.int .i64 t.st,.int .i64 t.sym,.slice hA t.hood.length hc,.slice vA t.vs.length vc,.slice rA t.rs.length rc] 26):=⟨_,rfl⟩
  obtain⟨pT,hp⟩:∃ p,p=w.heap.size:=⟨_,rfl⟩
  have hv:=TvB.new (hc:=hc) (vc:=vc) (rc:=rc) hr;rw[← hw,← hp] at hv;have hb:Below w.heap.size w zT:=by rw[hw];exact below_new _ _
  replace HB:=hid (HB.out.trans (hb.mono HB.out.size));replace HENV:=hid (HENV.out.ext hb);replace HI:=hid (HI.out.ext hb);have HT:=hid hv;clear hv hb hr;go_upto_region 1 with fail
  rw[← hw,← hp];clear hw hp;have cT0:zT.cell? ⟨pT,0,none⟩=some (.int .i64 t.st):=HT.out.cells.1;have cT1:zT.cell? ⟨pT,1,none⟩=some (.int .i64 t.sym):=HT.out.cells.2.1;have cT2:zT.cell? ⟨pT,2,none⟩=some (.slice hA t.hood.length hc):=HT.out.cells.2.2.1;have cT3:zT.cell? ⟨pT,3,none⟩=some (.slice vA t.vs.length vc):=HT.out.cells.2.2.2.1;have cT4:zT.cell? ⟨pT,4,none⟩=some (.slice rA t.rs.length rc):=HT.out.cells.2.2.2.2;have hcall:=few11_any hA hc vA vc rA rc t zT HT.out.tb;rw[HFT.out] at hcall;unfold tabV at hcall;have HCALL:=hid hcall;clear hcall;go_wp2_with (go_at_call 8;refine HCALL.out.mono ?_;intro e x1 hx;obtain⟨rfl,hb⟩:=hx;refine Hid.out ?_);refine hid ?_;replace HB:=hid (HB.out.trans (hb.mono HB.out.size));replace HENV:=hid (HENV.out.ext hb);replace HI:=hid (HI.out.ext hb);replace HT:=hid (HT.out.ext hb);clear hb HCALL;clear cT0 cT1 cT2 cT3 cT4;have hcall:=awake_any x1 HENV.out;have HCALL:=hid hcall;clear hcall;go_wp2_with (go_at_call 9;refine HCALL.out.mono ?_;intro e x2 hx;obtain⟨rfl,hb⟩:=hx;refine Hid.out ?_);refine hid ?_;replace HB:=hid (HB.out.trans (hb.mono HB.out.size));replace HENV:=hid (HENV.out.ext hb);replace HI:=hid (HI.out.ext hb);replace HT:=hid (HT.out.ext hb);clear hb HCALL;go_wp2;go_ret;exact⟨rfl,HB.out⟩
 | true=>
  have HFT:=hid hf;clear hf;by_cases hl:inn.length≤30
  ·
   have d30:=go30 hl;clear go30 no30 hl;go_enter Tryz.func4,Tryz.ntmps4;obtain⟨zT,hw⟩:∃ W,W=w.alloc (.cells #[.int .i64 t.st,.int .i64 t.sym,.slice hA t.hood.length hc,.slice vA t.vs.length vc,.slice rA t.rs.length rc] 26):=⟨_,rfl⟩
   obtain⟨pT,hp⟩:∃ p,p=w.heap.size:=⟨_,rfl⟩
   have hv:=TvB.new (hc:=hc) (vc:=vc) (rc:=rc) hr;rw[← hw,← hp] at hv;have hb:Below w.heap.size w zT:=by rw[hw];exact below_new _ _
   replace HB:=hid (HB.out.trans (hb.mono HB.out.size));replace HENV:=hid (HENV.out.ext hb);replace HI:=hid (HI.out.ext hb);have HT:=hid hv;clear hv hb hr;go_upto_region 1 with fail
   rw[← hw,← hp];clear hw hp;have cT0:zT.cell? ⟨pT,0,none⟩=some (.int .i64 t.st):=HT.out.cells.1;have cT1:zT.cell? ⟨pT,1,none⟩=some (.int .i64 t.sym):=HT.out.cells.2.1;have cT2:zT.cell? ⟨pT,2,none⟩=some (.slice hA t.hood.length hc):=HT.out.cells.2.2.1;have cT3:zT.cell? ⟨pT,3,none⟩=some (.slice vA t.vs.length vc):=HT.out.cells.2.2.2.1;have cT4:zT.cell? ⟨pT,4,none⟩=some (.slice rA t.rs.length rc):=HT.out.cells.2.2.2.2;have hcall:=few11_any hA hc vA vc rA rc t zT HT.out.tb;rw[HFT.out] at hcall;unfold tabV at hcall;have HCALL:=hid hcall;clear hcall;go_wp2_with (go_at_call 8;refine HCALL.out.mono ?_;intro e x1 hx;obtain⟨rfl,hb⟩:=hx;refine Hid.out ?_);refine hid ?_;replace HB:=hid (HB.out.trans (hb.mono HB.out.size));replace HENV:=hid (HENV.out.ext hb);replace HI:=hid (HI.out.ext hb);replace HT:=hid (HT.out.ext hb);clear hb HCALL;clear cT0 cT1 cT2 cT3 cT4;have cT0:x1.cell? ⟨pT,0,none⟩=some (.int .i64 t.st):=HT.out.cells.1;have cT1:x1.cell? ⟨pT,1,none⟩=some (.int .i64 t.sym):=HT.out.cells.2.1;have cT2:x1.cell? ⟨pT,2,none⟩=some (.slice hA t.hood.length hc):=HT.out.cells.2.2.1;have cT3:x1.cell? ⟨pT,3,none⟩=some (.slice vA t.vs.length vc):=HT.out.cells.2.2.2.1;have cT4:x1.cell? ⟨pT,4,none⟩=some (.slice rA t.rs.length rc):=HT.out.cells.2.2.2.2;have hcall:=match_any hA hc vA vc rA rc t row iA ic inn x1 HT.out.tb HENV.out.mat HI.out (.inr permOK);rw[HMT.out] at hcall;unfold tabV at hcall;have HCALL:=hid hcall;clear hcall;go_wp2_with (go_at_call 14;refine HCALL.out.mono ?_;intro e x2 hx;obtain⟨rfl,hb⟩:=hx;refine Hid.out ?_);refine hid ?_;replace HB:=hid (HB.out.trans (hb.mono HB.out.size));replace HENV:=hid (HENV.out.ext hb);replace HI:=hid (HI.out.ext hb);replace HT:=hid (HT.out.ext hb);clear hb HCALL;clear cT0 cT1 cT2 cT3 cT4;have cT0:x2.cell? ⟨pT,0,none⟩=some (.int .i64 t.st):=HT.out.cells.1;have cT1:x2.cell? ⟨pT,1,none⟩=some (.int .i64 t.sym):=HT.out.cells.2.1;have cT2:x2.cell? ⟨pT,2,none⟩=some (.slice hA t.hood.length hc):=HT.out.cells.2.2.1;have cT3:x2.cell? ⟨pT,3,none⟩=some (.slice vA t.vs.length vc):=HT.out.cells.2.2.2.1;have cT4:x2.cell? ⟨pT,4,none⟩=some (.slice rA t.rs.length rc):=HT.out.cells.2.2.2.2;have hcall:=rmatch11_any hA hc vA vc rA rc t row iA ic inn x2 HT.out.tb HI.out;rw[HMT.out] at hcall;unfold tabV at hcall;have HCALL:=hid hcall;clear hcall;go_wp2_with (go_at_call 15;refine HCALL.out.mono ?_;intro e x3 hx;obtain⟨rfl,hb⟩:=hx;refine Hid.out ?_);refine hid ?_;replace HB:=hid (HB.out.trans (hb.mono HB.out.size));replace HENV:=hid (HENV.out.ext hb);replace HI:=hid (HI.out.ext hb);replace HT:=hid (HT.out.ext hb);clear hb HCALL;clear cT0 cT1 cT2 cT3 cT4;have cT0:x3.cell? ⟨pT,0,none⟩=some (.int .i64 t.st):=HT.out.cells.1;have cT1:x3.cell? ⟨pT,1,none⟩=some (.int .i64 t.sym):=HT.out.cells.2.1;have cT2:x3.cell? ⟨pT,2,none⟩=some (.slice hA t.hood.length hc):=HT.out.cells.2.2.1;have cT3:x3.cell? ⟨pT,3,none⟩=some (.slice vA t.vs.length vc):=HT.out.cells.2.2.2.1;have cT4:x3.cell? ⟨pT,4,none⟩=some (.slice rA t.rs.length rc):=HT.out.cells.2.2.2.2;have hcall:=next_any hA hc vA vc rA rc t iA ic inn x3 HT.out.tb HENV.out.mat HI.out (.inr permOK);rw[HNT.out] at hcall;unfold tabV at hcall;have HCALL:=hid hcall;clear hcall
   go_wp2_with (go_at_call 16;refine HCALL.out.mono ?_;intro e x4 hx;obtain⟨rfl,hb⟩:=hx;refine Hid.out ?_);refine hid ?_;replace HB:=hid (HB.out.trans (hb.mono HB.out.size));replace HENV:=hid (HENV.out.ext hb);replace HI:=hid (HI.out.ext hb);replace HT:=hid (HT.out.ext hb);clear hb HCALL;clear cT0 cT1 cT2 cT3 cT4;have cT0:x4.cell? ⟨pT,0,none⟩=some (.int .i64 t.st):=HT.out.cells.1;have cT1:x4.cell? ⟨pT,1,none⟩=some (.int .i64 t.sym):=HT.out.cells.2.1;have cT2:x4.cell? ⟨pT,2,none⟩=some (.slice hA t.hood.length hc):=HT.out.cells.2.2.1;have cT3:x4.cell? ⟨pT,3,none⟩=some (.slice vA t.vs.length vc):=HT.out.cells.2.2.2.1;have cT4:x4.cell? ⟨pT,4,none⟩=some (.slice rA t.rs.length rc):=HT.out.cells.2.2.2.2;have hcall:=rnext11_any hA hc vA vc rA rc t iA ic inn x4 HT.out.tb HI.out;rw[HNT.out] at hcall;unfold tabV at hcall;have HCALL:=hid hcall;clear hcall;go_wp2_with (go_at_call 17;refine HCALL.out.mono ?_;intro e x5 hx;obtain⟨rfl,hb⟩:=hx;refine Hid.out ?_);refine hid ?_;replace HB:=hid (HB.out.trans (hb.mono HB.out.size));replace HENV:=hid (HENV.out.ext hb);replace HI:=hid (HI.out.ext hb);replace HT:=hid (HT.out.ext hb);clear hb HCALL;clear cT0 cT1 cT2 cT3 cT4;have hcall:=awake_any x5 HENV.out;have HCALL:=hid hcall;clear hcall;go_wp2_with (go_at_call 9;refine HCALL.out.mono ?_;intro e x6 hx;obtain⟨rfl,hb⟩:=hx;refine Hid.out ?_);refine hid ?_;replace HB:=hid (HB.out.trans (hb.mono HB.out.size));replace HENV:=hid (HENV.out.ext hb);replace HI:=hid (HI.out.ext hb);replace HT:=hid (HT.out.ext hb);clear hb HCALL;go_wp2;go_ret;exact⟨rfl,HB.out⟩
  ·
   have d30:=no30 hl;clear go30 no30 hl;go_enter Tryz.func4,Tryz.ntmps4;obtain⟨zT,hw⟩:∃ W,W=w.alloc (.cells #[.int .i64 t.st,.int .i64 t.sym,.slice hA t.hood.length hc,.slice vA t.vs.length vc,.slice rA t.rs.length rc] 26):=⟨_,rfl⟩
   obtain⟨pT,hp⟩:∃ p,p=w.heap.size:=⟨_,rfl⟩
   have hv:=TvB.new (hc:=hc) (vc:=vc) (rc:=rc) hr;rw[← hw,← hp] at hv;have hb:Below w.heap.size w zT:=by rw[hw];exact below_new _ _
   replace HB:=hid (HB.out.trans (hb.mono HB.out.size));replace HENV:=hid (HENV.out.ext hb);replace HI:=hid (HI.out.ext hb);have HT:=hid hv;clear hv hb hr;go_upto_region 1 with fail
   rw[← hw,← hp];clear hw hp;have cT0:zT.cell? ⟨pT,0,none⟩=some (.int .i64 t.st):=HT.out.cells.1;have cT1:zT.cell? ⟨pT,1,none⟩=some (.int .i64 t.sym):=HT.out.cells.2.1;have cT2:zT.cell? ⟨pT,2,none⟩=some (.slice hA t.hood.length hc):=HT.out.cells.2.2.1;have cT3:zT.cell? ⟨pT,3,none⟩=some (.slice vA t.vs.length vc):=HT.out.cells.2.2.2.1;have cT4:zT.cell? ⟨pT,4,none⟩=some (.slice rA t.rs.length rc):=HT.out.cells.2.2.2.2;have hcall:=few11_any hA hc vA vc rA rc t zT HT.out.tb;rw[HFT.out] at hcall;unfold tabV at hcall;have HCALL:=hid hcall;clear hcall;go_wp2_with (go_at_call 8;refine HCALL.out.mono ?_;intro e x1 hx;obtain⟨rfl,hb⟩:=hx;refine Hid.out ?_);refine hid ?_;replace HB:=hid (HB.out.trans (hb.mono HB.out.size));replace HENV:=hid (HENV.out.ext hb);replace HI:=hid (HI.out.ext hb);replace HT:=hid (HT.out.ext hb);clear hb HCALL;clear cT0 cT1 cT2 cT3 cT4;have hcall:=awake_any x1 HENV.out;have HCALL:=hid hcall;clear hcall;go_wp2_with (go_at_call 9;refine HCALL.out.mono ?_;intro e x2 hx;obtain⟨rfl,hb⟩:=hx;refine Hid.out ?_);refine hid ?_;replace HB:=hid (HB.out.trans (hb.mono HB.out.size));replace HENV:=hid (HENV.out.ext hb);replace HI:=hid (HI.out.ext hb);replace HT:=hid (HT.out.ext hb);clear hb HCALL;go_wp2;go_ret;exact⟨rfl,HB.out⟩
end Go.Proofs.YtcmbdhopmncmnaaGreatDoor
