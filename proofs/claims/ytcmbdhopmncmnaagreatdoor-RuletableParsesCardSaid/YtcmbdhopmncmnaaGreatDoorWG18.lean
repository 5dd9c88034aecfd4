/-
  texts RR11 EqR Rsamp RSm11: parts of the proof; conditions stand with each theorem.
-/
import Derived.Test.YtcmbdhopmncmnaaGreatDoorWG4
import Derived.Test.YtcmbdhopmncmnaaGreatDoorWG7
import Derived.Test.YtcmbdhopmncmnaaGreatDoorWG1
import Derived.Test.YtcmbdhopmncmnaaGreatDoorWG13
namespace Go.Proofs.YtcmbdhopmncmnaaGreatDoor
open Lib(hid)
open Go.RowKit Go.Sort
set_option maxRecDepth 100000
set_option linter.unusedVariables false
set_option linter.unusedSimpArgs false
theorem rvalue11_any (st sym:Int)(hA:Option Addr)(nh hc:Nat)(vA:Option Addr)(nv vc:Nat)(rA:Option Addr)(nr rc:Nat)(n:Int)(w:World)(hv:nv≤1000000000) :
  Calls Tryz.prog 33 #[.agg #[.int .i64 st,.int .i64 sym,.slice hA nh hc,.slice vA nv vc,.slice rA nr rc],.int .i64 n] w fun e w'=>e=.returned (.bool (elB st nv n))∧Below w.heap.size w w':=by
 obtain⟨w0,hw0⟩:∃ w0,w0=w.alloc (.cells #[.int .i64 st,.int .i64 sym,.slice hA nh hc,.slice vA nv vc,.slice rA nr rc] 26):=⟨_,rfl⟩
 have hb0:Below w.heap.size w w0:=by rw[hw0];exact below_new _ _
 have p0:Blk w0 w.heap.size 26 #[.int .i64 st,.int .i64 sym,.slice hA nh hc,.slice vA nv vc,.slice rA nr rc]:=by rw[hw0];exact Blk.new _ _ _
 have HW0:=hid hw0;have HB0:=hid hb0;have c0:=p0.cell_ 0 (.int .i64 st) rfl;have c3:=p0.cell_ 3 (.slice vA nv vc) rfl;have hw:wrap64 (-(nv:Int)) = -(nv:Int):=by unfold wrap64;omega
 have hv9:nv≤9223372036854775807:=by omega
 obtain⟨r,hr⟩:∃ r,r=elB st nv n:=⟨_,rfl⟩
 rw[← hr];have HR:=hid hr;clear hr hv hw0 hb0 p0;by_cases h1:n < st
 ·have d1:decide (n < st)=true:=decide_eq_true h1;have HE:Hid (r=decide (-(nv:Int)≤n)):=hid (by rw[HR.out];unfold elB;rw[d1];rfl);clear h1;go_enter Tryz.func33,Tryz.ntmps33;go_upto_region 1 with fail
  rw[← HW0.out];go_wp2;go_ret;exact⟨ret_bool HE.out.symm,HB0.out⟩
 ·have d1:decide (n < st)=false:=decide_eq_false h1;have HE:Hid (r=false):=hid (by rw[HR.out];unfold elB;rw[d1];rfl);clear h1;go_enter Tryz.func33,Tryz.ntmps33;go_upto_region 1 with fail
  rw[← HW0.out];go_wp2;go_ret;exact⟨ret_bool HE.out.symm,HB0.out⟩
set_option maxHeartbeats 32000000 in
theorem rright11_any (hA:Option Addr)(hc:Nat)(vA:Option Addr)(vc:Nat)(rA:Option Addr)(rc:Nat)(t:TabH)(w:World)(hT:TabR w hA vA rA t) :
  Calls Tryz.prog 11 #[tabV hA hc vA vc rA rc t] w fun e w'=>e=.returned (.bool (rightTab t.tab))∧Below w.heap.size w w':=by
 obtain⟨st,sym,hood,vs,rs⟩:=t;unfold tabV;dsimp only;obtain⟨w0,hw0⟩:∃ w0,w0=w.alloc (.cells #[.int .i64 st,.int .i64 sym,.slice hA hood.length hc,.slice vA vs.length vc,.slice rA rs.length rc] 26):=⟨_,rfl⟩
 have hb0:Below w.heap.size w w0:=by rw[hw0];exact below_new _ _
 have p0:Blk w0 w.heap.size 26 #[.int .i64 st,.int .i64 sym,.slice hA hood.length hc,.slice vA vs.length vc,.slice rA rs.length rc]:=by rw[hw0];exact Blk.new _ _ _
 obtain⟨gT,hgT⟩:∃ g,g=w.heap.size:=⟨_,rfl⟩
 rw[← hgT] at p0;have HT:=hid (hT.ext hb0);have HCH:=hid (rhood_any hA hc hood w0 (hT.ext hb0).hood);have HCP:=hid (fun W (hW:Below w0.heap.size w0 W)=>rpermits_any hA hood hc sym W ((hT.ext hb0).hood.ext hW));have HB0:=hid hb0;have HP:=hid p0;have HW0:=hid (And.intro hw0 hgT);have hh9:hood.length≤9223372036854775807:=hT.hood.le;have hv9:vs.length≤9223372036854775807:=hT.vars.le;have hr9:rs.length≤9223372036854775807:=hT.rows.le;obtain⟨res,hres⟩:∃ r,r=rightTab (TabH.tab ⟨st,sym,hood,vs,rs⟩):=⟨_,rfl⟩
 rw[← hres];have HRES:Hid (res=(decide (2≤st) && decide (st≤8) && hoodB hood && permP hood sym && decide (vs.length≤40) && decide (rs.length≤400) && (vs.map Vh.zs).all (okVar st) && (rs.map Rh.rw_).all (okRow st vs.length hood.length))):=hid (by
  rw[hres];unfold rightTab headTab TabH.tab;dsimp only;rw[List.length_map,List.length_map])
 clear hb0 p0 hw0 hgT hT hres;have x0:=HP.out.cell_ 0 (.int .i64 st) rfl;have x1:=HP.out.cell_ 1 (.int .i64 sym) rfl;have x2:=HP.out.cell_ 2 (.slice hA hood.length hc) rfl;have x3:=HP.out.cell_ 3 (.slice vA vs.length vc) rfl;have x4:=HP.out.cell_ 4 (.slice rA rs.length rc) rfl;by_cases h1:st < 2
 ·have d1:decide (st < 2)=true:=decide_eq_true h1;have HF:Hid (res=false):=hid (by rw[HRES.out,decide_eq_false (by omega:¬ 2≤st)];rfl);clear h1;go_enter Tryz.func11,Tryz.ntmps11;go_upto_region 1 with fail
  rw[← HW0.out.1,← HW0.out.2];go_wp2;go_ret;exact⟨ret_bool HF.out.symm,HB0.out⟩
 have d1:decide (st < 2)=false:=decide_eq_false h1;by_cases h2:8 < st
 ·have d2:decide (8 < st)=true:=decide_eq_true h2;have HF:Hid (res=false):=hid (by rw[HRES.out,decide_eq_false (by omega:¬ st≤8)];simp);clear h1 h2;go_enter Tryz.func11,Tryz.ntmps11;go_upto_region 1 with fail
  rw[← HW0.out.1,← HW0.out.2];go_wp2;go_ret;exact⟨ret_bool HF.out.symm,HB0.out⟩
 have d2:decide (8 < st)=false:=decide_eq_false h2;have hpn:sym < 0∨3 < sym→permP hood sym=false:=fun h=>by unfold permP;rw[if_neg (by omega),if_neg (by omega),if_neg (by omega),if_neg (by omega)]
 by_cases g1:sym < 0
 ·have e1:decide (sym < 0)=true:=decide_eq_true g1;have HF:Hid (res=false):=hid (by rw[HRES.out,hpn (.inl g1)];simp);clear h1 h2 hpn g1;go_enter Tryz.func11,Tryz.ntmps11;go_upto_region 1 with fail
  rw[← HW0.out.1,← HW0.out.2];go_wp2;go_ret;exact⟨ret_bool HF.out.symm,HB0.out⟩
 have e1:decide (sym < 0)=false:=decide_eq_false g1;by_cases g2:3 < sym
 ·have e2:decide (3 < sym)=true:=decide_eq_true g2;have HF:Hid (res=false):=hid (by rw[HRES.out,hpn (.inr g2)];simp);clear h1 h2 hpn g1 g2;go_enter Tryz.func11,Tryz.ntmps11;go_upto_region 1 with fail
  rw[← HW0.out.1,← HW0.out.2];go_wp2;go_ret;exact⟨ret_bool HF.out.symm,HB0.out⟩
 have e2:decide (3 < sym)=false:=decide_eq_false g2;have HST:Hid (2≤st∧st≤8):=hid ⟨by omega,by omega⟩;clear h1 h2 g1 g2 hpn;cases h3:hoodB hood with
 | false=>
  have HF:Hid (res=false):=hid (by rw[HRES.out,h3];simp);rw[h3] at HCH;clear h3;go_enter Tryz.func11,Tryz.ntmps11;go_upto_region 1 with fail
  rw[← HW0.out.1,← HW0.out.2];go_wp2_with (go_at_call 31;refine HCH.out.mono ?_;rintro e w1 ⟨rfl,hb1⟩;refine Hid.out ?_);refine hid ?_;have HB1:=hid hb1;have HP1:=hid (HP.out.below hb1 HP.out.lt);clear hb1 x0 x1 x2 x3 x4;have x0:=HP1.out.cell_ 0 (.int .i64 st) rfl;have x1:=HP1.out.cell_ 1 (.int .i64 sym) rfl;have x2:=HP1.out.cell_ 2 (.slice hA hood.length hc) rfl;have x3:=HP1.out.cell_ 3 (.slice vA vs.length vc) rfl;have x4:=HP1.out.cell_ 4 (.slice rA rs.length rc) rfl;go_wp2;go_ret;exact⟨ret_bool HF.out.symm,HB0.out.trans (HB1.out.mono HB0.out.size)⟩
 | true=>
 have HHB:=hid h3;rw[h3] at HCH;cases h4:permP hood sym with
 | false=>
  have HF:Hid (res=false):=hid (by rw[HRES.out,h4];simp);rw[h4] at HCP;clear h3 h4;go_enter Tryz.func11,Tryz.ntmps11;go_upto_region 1 with fail
  rw[← HW0.out.1,← HW0.out.2];go_wp2_with (go_at_call 31;refine HCH.out.mono ?_;rintro e w1 ⟨rfl,hb1⟩;refine Hid.out ?_);refine hid ?_;have HB1:=hid hb1;have HP1:=hid (HP.out.below hb1 HP.out.lt);clear hb1 x0 x1 x2 x3 x4;have x0:=HP1.out.cell_ 0 (.int .i64 st) rfl;have x1:=HP1.out.cell_ 1 (.int .i64 sym) rfl;have x2:=HP1.out.cell_ 2 (.slice hA hood.length hc) rfl;have x3:=HP1.out.cell_ 3 (.slice vA vs.length vc) rfl;have x4:=HP1.out.cell_ 4 (.slice rA rs.length rc) rfl;have HCQ:=hid (HCP.out w1 HB1.out);go_wp2_with (go_at_call 32;refine HCQ.out.mono ?_;rintro e w2 ⟨rfl,hb2⟩;refine Hid.out ?_);refine hid ?_;have HB2:=hid (HB1.out.trans (hb2.mono HB1.out.size));have HP2:=hid (HP.out.below HB2.out HP.out.lt);clear hb2 x0 x1 x2 x3 x4;have x0:=HP2.out.cell_ 0 (.int .i64 st) rfl;have x1:=HP2.out.cell_ 1 (.int .i64 sym) rfl;have x2:=HP2.out.cell_ 2 (.slice hA hood.length hc) rfl;have x3:=HP2.out.cell_ 3 (.slice vA vs.length vc) rfl;have x4:=HP2.out.cell_ 4 (.slice rA rs.length rc) rfl;go_wp2;go_ret;exact⟨ret_bool HF.out.symm,HB0.out.trans (HB2.out.mono HB0.out.size)⟩
 | true=>
 rw[h4] at HCP;have HPM:=hid h4;clear h3 h4;by_cases h5:40 < vs.length
 ·have d5:decide ((40:Int) < (vs.length:Int))=true:=decide_eq_true (by omega);have d5':decide (40 < vs.length)=true:=decide_eq_true h5;have HF:Hid (res=false):=hid (by rw[HRES.out,decide_eq_false (by omega:¬ vs.length≤40)];simp);clear h5;go_enter Tryz.func11,Tryz.ntmps11;go_upto_region 1 with fail
  rw[← HW0.out.1,← HW0.out.2];go_wp2_with (go_at_call 31;refine HCH.out.mono ?_;rintro e w1 ⟨rfl,hb1⟩;refine Hid.out ?_);refine hid ?_;have HB1:=hid hb1;have HP1:=hid (HP.out.below hb1 HP.out.lt);clear hb1 x0 x1 x2 x3 x4;have x0:=HP1.out.cell_ 0 (.int .i64 st) rfl;have x1:=HP1.out.cell_ 1 (.int .i64 sym) rfl;have x2:=HP1.out.cell_ 2 (.slice hA hood.length hc) rfl;have x3:=HP1.out.cell_ 3 (.slice vA vs.length vc) rfl;have x4:=HP1.out.cell_ 4 (.slice rA rs.length rc) rfl;have HCQ:=hid (HCP.out w1 HB1.out);go_wp2_with (go_at_call 32;refine HCQ.out.mono ?_;rintro e w2 ⟨rfl,hb2⟩;refine Hid.out ?_);refine hid ?_;have HB2:=hid (HB1.out.trans (hb2.mono HB1.out.size));have HP2:=hid (HP.out.below HB2.out HP.out.lt);clear hb2 x0 x1 x2 x3 x4;have x0:=HP2.out.cell_ 0 (.int .i64 st) rfl;have x1:=HP2.out.cell_ 1 (.int .i64 sym) rfl;have x2:=HP2.out.cell_ 2 (.slice hA hood.length hc) rfl;have x3:=HP2.out.cell_ 3 (.slice vA vs.length vc) rfl;have x4:=HP2.out.cell_ 4 (.slice rA rs.length rc) rfl;go_wp2;go_ret;exact⟨ret_bool HF.out.symm,HB0.out.trans (HB2.out.mono HB0.out.size)⟩
 have d5:decide ((40:Int) < (vs.length:Int))=false:=decide_eq_false (by omega);have d5':decide (40 < vs.length)=false:=decide_eq_false h5;by_cases h6:400 < rs.length
 ·have d6:decide ((400:Int) < (rs.length:Int))=true:=decide_eq_true (by omega);have d6':decide (400 < rs.length)=true:=decide_eq_true h6;have HF:Hid (res=false):=hid (by rw[HRES.out,decide_eq_false (by omega:¬ rs.length≤400)];simp);clear h5 h6;go_enter Tryz.func11,Tryz.ntmps11;go_upto_region 1 with fail
  rw[← HW0.out.1,← HW0.out.2];go_wp2_with (go_at_call 31;refine HCH.out.mono ?_;rintro e w1 ⟨rfl,hb1⟩;refine Hid.out ?_);refine hid ?_;have HB1:=hid hb1;have HP1:=hid (HP.out.below hb1 HP.out.lt);clear hb1 x0 x1 x2 x3 x4;have x0:=HP1.out.cell_ 0 (.int .i64 st) rfl;have x1:=HP1.out.cell_ 1 (.int .i64 sym) rfl;have x2:=HP1.out.cell_ 2 (.slice hA hood.length hc) rfl;have x3:=HP1.out.cell_ 3 (.slice vA vs.length vc) rfl;have x4:=HP1.out.cell_ 4 (.slice rA rs.length rc) rfl;have HCQ:=hid (HCP.out w1 HB1.out);go_wp2_with (go_at_call 32;refine HCQ.out.mono ?_;rintro e w2 ⟨rfl,hb2⟩;refine Hid.out ?_);refine hid ?_;have HB2:=hid (HB1.out.trans (hb2.mono HB1.out.size));have HP2:=hid (HP.out.below HB2.out HP.out.lt);clear hb2 x0 x1 x2 x3 x4;have x0:=HP2.out.cell_ 0 (.int .i64 st) rfl;have x1:=HP2.out.cell_ 1 (.int .i64 sym) rfl;have x2:=HP2.out.cell_ 2 (.slice hA hood.length hc) rfl;have x3:=HP2.out.cell_ 3 (.slice vA vs.length vc) rfl;have x4:=HP2.out.cell_ 4 (.slice rA rs.length rc) rfl;go_wp2;go_ret;exact⟨ret_bool HF.out.symm,HB0.out.trans (HB2.out.mono HB0.out.size)⟩
 have d6:decide ((400:Int) < (rs.length:Int))=false:=decide_eq_false (by omega);have d6':decide (400 < rs.length)=false:=decide_eq_false h6;have HLN:Hid (vs.length≤40∧rs.length≤400):=hid ⟨by omega,by omega⟩;have HRES2:Hid (res=((vs.map Vh.zs).all (okVar st) && (rs.map Rh.rw_).all (okRow st vs.length hood.length))):=hid (by
  rw[HRES.out,decide_eq_true HST.out.1,decide_eq_true HST.out.2,HHB.out,HPM.out,decide_eq_true HLN.out.1,decide_eq_true HLN.out.2]
  simp)
 clear h5 h6;go_enter Tryz.func11,Tryz.ntmps11;go_upto_region 1 with fail
 rw[← HW0.out.1,← HW0.out.2];go_wp2_with (go_at_call 31;refine HCH.out.mono ?_;rintro e w1 ⟨rfl,hb1⟩;refine Hid.out ?_);refine hid ?_;have HB1:=hid hb1;have HP1:=hid (HP.out.below hb1 HP.out.lt);clear hb1 x0 x1 x2 x3 x4;have x0:=HP1.out.cell_ 0 (.int .i64 st) rfl;have x1:=HP1.out.cell_ 1 (.int .i64 sym) rfl;have x2:=HP1.out.cell_ 2 (.slice hA hood.length hc) rfl;have x3:=HP1.out.cell_ 3 (.slice vA vs.length vc) rfl;have x4:=HP1.out.cell_ 4 (.slice rA rs.length rc) rfl;have HCQ:=hid (HCP.out w1 HB1.out);go_wp2_with (go_at_call 32;refine HCQ.out.mono ?_;rintro e w2 ⟨rfl,hb2⟩;refine Hid.out ?_);refine hid ?_;have HB2:=hid (HB1.out.trans (hb2.mono HB1.out.size));have HP2:=hid (HP.out.below HB2.out HP.out.lt);clear hb2 x0 x1 x2 x3 x4;have x0:=HP2.out.cell_ 0 (.int .i64 st) rfl;have x1:=HP2.out.cell_ 1 (.int .i64 sym) rfl;have x2:=HP2.out.cell_ 2 (.slice hA hood.length hc) rfl;have x3:=HP2.out.cell_ 3 (.slice vA vs.length vc) rfl;have x4:=HP2.out.cell_ 4 (.slice rA rs.length rc) rfl;go_upto_region 4 with fail
 clear d1 d2 e1 e2 d5 d5' d6 d6' x0 x1 x2 x3 x4;have HT2:=hid (HT.out.ext HB2.out);have HBE:=hid (HB0.out.trans (HB2.out.mono HB0.out.size));clear HB1 HP1;go_loopw [3] (fun iv wr=>∃ i:Nat,i≤vs.length∧iv=.int .i64 i∧Hid (Below w2.heap.size w2 wr)∧Hid ((vs.map Vh.zs).all (okVar st)=((vs.drop i).map Vh.zs).all (okVar st))) (fun iv _=>vs.length - (intOf iv).toNat)
 case atStart=>exact⟨0,Nat.zero_le _,rfl,hid (Below.refl _ _),hid rfl⟩
 case round=>
  obtain⟨i,hi,rfl,HBW,HD⟩:=hrel;have HPW:=hid (HP2.out.below HBW.out HP2.out.lt);by_cases hil:i < vs.length
  ·obtain⟨vb,vo,ea,-,hca,hia⟩:=HT2.out.vars.at_ hil;have hAD:=HD.out.trans (all_dropM Vh.zs (okVar st) hil);obtain⟨xh,hxh⟩:∃ z,z=vs[i]:=⟨_,rfl⟩
   rw[← hxh] at hca hia hAD;obtain⟨xA,xc,l⟩:=xh;dsimp only at hca hia hAD ea;subst ea;have HAD:=hid hAD;have HCA:Hid (∀ W,Below w2.heap.size w2 W→W.cell? ⟨vb,vo+i,none⟩=some (.slice xA l.length xc)):=hid (fun W hW=>by
    obtain⟨b9,o9,e9,-,h9,-⟩:=(HT2.out.vars.ext hW).at_ hil;injection e9 with e9
    injection e9 with e8 e9
    subst e8 e9;rw[h9,← hxh])
   have HI:=hid hil;have hwi:wrap64 ((i:Int)+1)=(i:Int)+1:=by unfold wrap64;omega
   have HWI:=hid hwi;have hl9:l.length≤9223372036854775807:=hia.le;have HIA:=hid hia;have hcw:=HCA.out wr HBW.out;have x3:=HPW.out.cell_ 3 (.slice (some ⟨vb,vo,none⟩) vs.length vc) rfl;clear hAD hxh hia hi hwi hca;by_cases h0:l.length=0
   ·have d0:((l.length:Int) == 0)=true:=beq_iff_eq.2 (by omega);have HF:Hid (res=false):=hid (by rw[HRES2.out,HAD.out];unfold okVar;rw[decide_eq_false (by omega:¬ 0 < l.length)];rfl);clear h0;go_wp2;go_ret;exact⟨ret_bool HF.out.symm,HBE.out.trans (HBW.out.mono HBE.out.size)⟩
   ·have d0:((l.length:Int) == 0)=false:=beq_false_of_ne (by omega);have HOK:Hid (okVar st l=okVarS st none l):=hid (by unfold okVar;rw[decide_eq_true (by omega:0 < l.length)];rfl);clear h0;go_upto_region 9 with fail
    clear x3 hcw d0;go_loopw [4] (fun jv wr=>∃ j:Nat,j≤l.length∧jv=.int .i64 j∧Hid (Below w2.heap.size w2 wr)∧Hid (okVarS st none l=okVarS st (prevO l j) (l.drop j))) (fun jv _=>l.length - (intOf jv).toNat)
    case atStart=>exact⟨0,Nat.zero_le _,rfl,HBW,hid rfl⟩
    case round=>
     clear HBW HPW;obtain⟨j,hj,rfl,HBW,HS⟩:=hrel;have HPW:=hid (HP2.out.below HBW.out HP2.out.lt);have hcw:=HCA.out _ HBW.out;have x0:=HPW.out.cell_ 0 (.int .i64 st) rfl;have x3:=HPW.out.cell_ 3 (.slice (some ⟨vb,vo,none⟩) vs.length vc) rfl;have hil:=HI.out;by_cases hjl:j < l.length
     ·obtain⟨xb,xo,ex,-,hcj⟩:=(HIA.out.ext HBW.out).at_ hjl;subst ex;have HNO:=hid (fun h=>okVarS_no (st:=st) hjl h);have HYE:=hid (fun h1 h2 h3=>okVarS_yes (st:=st) hjl h1 h2 h3);obtain⟨s,hs⟩:∃ s,s=l[j]:=⟨_,rfl⟩
      rw[← hs] at hcj HNO HYE;have HJ:=hid hjl;have hwj:wrap64 ((j:Int)+1)=(j:Int)+1:=by unfold wrap64;omega
      have HWJ:=hid hwj;have HBAD:Hid (okVarS st (prevO l j) (l.drop j)=false→res=false):=hid (fun h=>by rw[HRES2.out,HAD.out,HOK.out,HS.out,h];rfl);clear hs hj hwj;by_cases e1:s < 0
      ·have q1:decide (s < 0)=true:=decide_eq_true e1;have HF:Hid (res=false):=hid (HBAD.out (HNO.out (.inl (by omega))));clear e1;go_wp2;go_quiet (fail)
       go_wp2;go_ret;exact⟨ret_bool HF.out.symm,HBE.out.trans ((below_drewN HBW.out _).mono HBE.out.size)⟩
      ·have q1:decide (s < 0)=false:=decide_eq_false e1;by_cases e2:st≤s
       ·have q2:decide (st≤s)=true:=decide_eq_true e2;have HF:Hid (res=false):=hid (HBAD.out (HNO.out (.inr (.inl (by omega)))));clear e1 e2;go_wp2;go_quiet (fail)
        go_wp2;go_ret;exact⟨ret_bool HF.out.symm,HBE.out.trans ((below_drewN HBW.out _).mono HBE.out.size)⟩
       ·have q2:decide (st≤s)=false:=decide_eq_false e2;have HE12:=hid (And.intro e1 e2);clear e1 e2;cases j with
        | zero=>
         rw[Nat.add_zero] at hcj;have HS2:Hid (okVarS st none l=okVarS st (prevO l (0+1)) (l.drop (0+1))):=hid (HS.out.trans (HYE.out (by have:=HE12.out.1;omega) (by have:=HE12.out.2;omega) rfl));go_wp2;go_quiet (fail)
         have HBN:=hid (below_drewN HBW.out nq);go_wp2;go_roundw
         case rel=>exact⟨0+1,HJ.out,(by first | rfl | (rw[HWJ.out];rfl)),HBN,HS2⟩
         case measure=>(try rw[HWJ.out]);exact meas_step HJ.out
        | succ j'=>
         have hj':j' < l.length:=Nat.lt_of_succ_lt hjl;obtain⟨xb',xo',ex',-,hcp⟩:=(HIA.out.ext HBW.out).at_ hj';obtain⟨rfl,rfl⟩:xb=xb'∧xo=xo':=by injection ex' with ex';injection ex' with h1 h2;exact⟨h1,h2⟩
         have hpv:prevO l (j'+1)=some l[j']:=List.getElem?_eq_getElem hj';obtain⟨a,ha⟩:∃ a,a=l[j']:=⟨_,rfl⟩
         rw[← ha] at hcp hpv;rw[hpv] at HNO HYE HS HBAD;have q3:decide ((0:Int) < ((j'+1:Nat):Int))=true:=decide_eq_true (by omega);have q3':decide ((0:Int) < (j':Int)+1)=true:=decide_eq_true (by omega);have hws:wrap64 (((j'+1:Nat):Int) - 1)=(j':Int):=by unfold wrap64;omega
         have hws':wrap64 ((j':Int)+1 - 1)=(j':Int):=by unfold wrap64;omega
         clear ex' ha hpv;by_cases e3:s≤a
         ·have q4:decide (s≤a)=true:=decide_eq_true e3;have HF:Hid (res=false):=hid (HBAD.out (HNO.out (.inr (.inr (decide_eq_false (by omega))))));clear e3;go_wp2;go_quiet (fail)
          go_wp2;go_ret;exact⟨ret_bool HF.out.symm,HBE.out.trans ((below_drewN HBW.out _).mono HBE.out.size)⟩
         ·have q4:decide (s≤a)=false:=decide_eq_false e3;have HS2:Hid (okVarS st none l=okVarS st (prevO l (j'+1+1)) (l.drop (j'+1+1))):=hid (HS.out.trans (HYE.out (by have:=HE12.out.1;omega) (by have:=HE12.out.2;omega) (decide_eq_true (by omega))));clear e3;go_wp2;go_quiet (fail)
          have HBN:=hid (below_drewN HBW.out nq);go_wp2;go_roundw
          case rel=>exact⟨j'+1+1,HJ.out,(by first | rfl | (rw[HWJ.out];rfl)),HBN,HS2⟩
          case measure=>(try rw[HWJ.out]);exact meas_step HJ.out
     ·obtain rfl:j=l.length:=Nat.le_antisymm hj (Nat.le_of_not_lt hjl);have HOV:Hid (okVar st l=true):=hid (by rw[HOK.out,HS.out,List.drop_length];cases prevO l l.length <;> rfl);have HD2:Hid ((vs.map Vh.zs).all (okVar st)=((vs.drop (i+1)).map Vh.zs).all (okVar st)):=hid (by rw[HAD.out,HOV.out];rfl);clear hj hjl;go_wp2;go_roundw
      case rel=>exact⟨i+1,HI.out,(by first | rfl | (rw[HWI.out];rfl)),HBW,HD2⟩
      case measure=>(try rw[HWI.out]);exact meas_step HI.out
  ·obtain rfl:i=vs.length:=Nat.le_antisymm hi (Nat.le_of_not_lt hil);have HRES3:Hid (res=(rs.map Rh.rw_).all (okRow st vs.length hood.length)):=hid (by rw[HRES2.out,HD.out,List.drop_length];rfl);have x3:=HPW.out.cell_ 3 (.slice vA vs.length vc) rfl;clear hi hil HD;go_upto_region 14 with fail
   clear x3 HPW;go_loopw [5] (fun iv wr=>∃ i:Nat,i≤rs.length∧iv=.int .i64 i∧Hid (Below w2.heap.size w2 wr)∧Hid ((rs.map Rh.rw_).all (okRow st vs.length hood.length)=((rs.drop i).map Rh.rw_).all (okRow st vs.length hood.length))) (fun iv _=>rs.length - (intOf iv).toNat)
   case atStart=>exact⟨0,Nat.zero_le _,rfl,HBW,hid rfl⟩
   case round=>
    clear HBW;obtain⟨i,hi,rfl,HBW,HD⟩:=hrel;have HPW:=hid (HP2.out.below HBW.out HP2.out.lt);by_cases hil:i < rs.length
    ·obtain⟨rb,ro,ea,-,hca,hda,hia⟩:=(HT2.out.rows.ext HBW.out).at_ hil;have hAD:=HD.out.trans (all_dropM Rh.rw_ (okRow st vs.length hood.length) hil);obtain⟨xh,hxh⟩:∃ z,z=rs[i]:=⟨_,rfl⟩
     rw[← hxh] at hca hda hia hAD;obtain⟨xA,xc,zs,out⟩:=xh;dsimp only at hca hda hia hAD ea;subst ea;have HAD:Hid ((rs.map Rh.rw_).all (okRow st vs.length hood.length)=(okRow st vs.length hood.length (zs,out) && ((rs.drop (i+1)).map Rh.rw_).all (okRow st vs.length hood.length))):=hid hAD;have HI:=hid hil;have hwi:wrap64 ((i:Int)+1)=(i:Int)+1:=by unfold wrap64;omega
     have HWI:=hid hwi;have hz9:zs.length≤9223372036854775807:=hia.le;obtain⟨wb,hwb⟩:∃ W,W=wr.alloc (.cells #[.slice xA zs.length xc,.int .i64 out] 48):=⟨_,rfl⟩
     have hbb:Below wr.heap.size wr wb:=by rw[hwb];exact below_new _ _
     obtain⟨gR,hgR⟩:∃ g,g=wr.heap.size:=⟨_,rfl⟩
     have HRB:Hid (Blk wb gR 48 #[.slice xA zs.length xc,.int .i64 out]):=hid (by rw[hgR,hwb];exact Blk.new _ _ _);have HBB:=hid (HBW.out.trans (hbb.mono HBW.out.size));have HIA:=hid (hia.ext hbb);have HWB:=hid (And.intro hwb hgR);have HPB:=hid (HP2.out.below HBB.out HP2.out.lt);have HBF:=hid (HBE.out.trans (HBB.out.mono HBE.out.size));have HEL:Hid (∀ n W,Calls Tryz.prog 33 #[.agg #[.int .i64 st,.int .i64 sym,.slice hA hood.length hc,.slice vA vs.length vc,.slice (some ⟨rb,ro,none⟩) rs.length rc],.int .i64 n] W fun e w'=>e=.returned (.bool (elB st vs.length n))∧Below W.heap.size W w'):=hid (fun n W=>rvalue11_any st sym hA hood.length hc vA vs.length vc (some ⟨rb,ro,none⟩) rs.length rc n W (by have:=HLN.out.1;omega));have HBAD:Hid (okRow st vs.length hood.length (zs,out)=false→res=false):=hid (fun h=>by rw[HRES3.out,HAD.out,h];rfl);have x4:=HPW.out.cell_ 4 (.slice (some ⟨rb,ro,none⟩) rs.length rc) rfl;clear hAD hxh hia hi hwi hwb hgR hbb;go_upto_region 17 with fail
     rw[← HWB.out.1,← HWB.out.2];clear hca hda x4;have r0:=HRB.out.cell_ 0 (.slice xA zs.length xc) rfl;have r1:=HRB.out.cell_ 1 (.int .i64 out) rfl;have x0:=HPB.out.cell_ 0 (.int .i64 st) rfl;have x1:=HPB.out.cell_ 1 (.int .i64 sym) rfl;have x2:=HPB.out.cell_ 2 (.slice hA hood.length hc) rfl;have x3:=HPB.out.cell_ 3 (.slice vA vs.length vc) rfl;have x4:=HPB.out.cell_ 4 (.slice (some ⟨rb,ro,none⟩) rs.length rc) rfl;by_cases e1:zs.length=hood.length
     ·have q1:((zs.length:Int) != (hood.length:Int))=false:=by simp[e1]
      have q1':(zs.length != hood.length)=false:=by simp[e1]
      have HE1:=hid e1;clear e1;have HEO:=hid (HEL.out out wb);cases e2:elB st vs.length out with
      | false=>
       have HF:Hid (res=false):=hid (HBAD.out (by unfold okRow;dsimp only;rw[e2];simp));rw[e2] at HEO;clear e2;go_wp2_with (go_at_call 33;refine HEO.out.mono ?_;rintro e w5 ⟨rfl,hb5⟩;refine Hid.out ?_);refine hid ?_;have HB5:=hid hb5;have HP5:=hid (HPB.out.below hb5 HPB.out.lt);have HR5:=hid (HRB.out.below hb5 HRB.out.lt);have HI5:=hid (HIA.out.ext hb5);clear hb5 r0 r1 x0 x1 x2 x3 x4;have r0:=HR5.out.cell_ 0 (.slice xA zs.length xc) rfl;have r1:=HR5.out.cell_ 1 (.int .i64 out) rfl;go_wp2;go_ret;exact⟨ret_bool HF.out.symm,HBF.out.trans (HB5.out.mono HBF.out.size)⟩
      | true=>
       have HE2:=hid e2;rw[e2] at HEO;clear e2;by_cases e3:out < 0
       ·have q3:decide (out < 0)=true:=decide_eq_true e3;by_cases e4:out ∈ zs
        ·have HRO:Hid (okRow st vs.length hood.length (zs,out)=zs.all (elB st vs.length)):=hid (by unfold okRow;dsimp only;rw[decide_eq_true HE1.out,HE2.out,decide_eq_true e4];simp);have HM:=hid e4;clear e3 e4;go_wp2_with (go_at_call 33;refine HEO.out.mono ?_;rintro e w5 ⟨rfl,hb5⟩;refine Hid.out ?_);refine hid ?_;have HB5:=hid hb5;have HP5:=hid (HPB.out.below hb5 HPB.out.lt);have HR5:=hid (HRB.out.below hb5 HRB.out.lt);have HI5:=hid (HIA.out.ext hb5);clear hb5 r0 r1 x0 x1 x2 x3 x4;have r0:=HR5.out.cell_ 0 (.slice xA zs.length xc) rfl;have r1:=HR5.out.cell_ 1 (.int .i64 out) rfl;have HCN:Hid (Calls Tryz.prog 24 #[.slice xA zs.length xc,.int .i64 out] w5 fun e w'=>e=.returned (.bool (decide (out ∈ zs)))∧w5=w'):=hid ((has_any xA zs xc out w5 HI5.out).mono fun e w' h=>⟨h.1,h.2.symm⟩);rw[decide_eq_true HM.out] at HCN;go_wp2_with (go_at_call 24;refine HCN.out.mono ?_;rintro e w6 ⟨rfl,rfl⟩;refine Hid.out ?_);refine hid ?_;go_upto_region 20 with fail
         clear r0 r1;go_loopw [7] (fun jv wr=>∃ j:Nat,j≤zs.length∧jv=.int .i64 j∧Hid (Below wb.heap.size wb wr)∧Hid (zs.all (elB st vs.length)=(zs.drop j).all (elB st vs.length))) (fun jv _=>zs.length - (intOf jv).toNat)
         case atStart=>exact⟨0,Nat.zero_le _,rfl,HB5,hid rfl⟩
         case round=>
          obtain⟨j,hj,rfl,HBJ,HS⟩:=hrel;have HPJ:=hid (HPB.out.below HBJ.out HPB.out.lt);have HRJ:=hid (HRB.out.below HBJ.out HRB.out.lt);have r0:=HRJ.out.cell_ 0 (.slice xA zs.length xc) rfl;by_cases hjl:j < zs.length
          ·obtain⟨xb,xo,ex,-,hcj⟩:=(HIA.out.ext HBJ.out).at_ hjl;subst ex;have HAL:=hid (HS.out.trans (all_drop0 (elB st vs.length) hjl));obtain⟨n,hn⟩:∃ s,s=zs[j]:=⟨_,rfl⟩
           rw[← hn] at hcj HAL;have HJ:=hid hjl;have hwj:wrap64 ((j:Int)+1)=(j:Int)+1:=by unfold wrap64;omega
           have HWJ:=hid hwj;obtain⟨eb,heb⟩:∃ b,b=elB st vs.length n:=⟨_,rfl⟩
           have HEN:Hid (∀ d os,Calls Tryz.prog 33 #[.agg #[.int .i64 st,.int .i64 sym,.slice hA hood.length hc,.slice vA vs.length vc,.slice (some ⟨rb,ro,none⟩) rs.length rc],.int .i64 n] (grow (redrawn wr d) os) fun e w''=>e=.returned (.bool eb)∧∃ p:Regrown,w''=grow (redrawn wr p.1) p.2):=hid (fun d os=>by rw[heb];exact Calls.regrown_of (HEL.out n _));have HEB:=hid heb;clear hn hj hwj heb;go_upto_region 22 with fail
           have j0:=cell_regrown r0;have j1:=cell_regrown hcj;have k0:=cell_regrown (HPJ.out.cell_ 0 (.int .i64 st) rfl);have k1:=cell_regrown (HPJ.out.cell_ 1 (.int .i64 sym) rfl);have k2:=cell_regrown (HPJ.out.cell_ 2 (.slice hA hood.length hc) rfl);have k3:=cell_regrown (HPJ.out.cell_ 3 (.slice vA vs.length vc) rfl);have k4:=cell_regrown (HPJ.out.cell_ 4 (.slice (some ⟨rb,ro,none⟩) rs.length rc) rfl);refine wp_region_quiet_below (by kernel_rfl) (by kernel_rfl) ?_;repeat (go_big_quiet_step (first | with_reducible exact HEN.out _ _))
           refine wpQuiet_nil ?_;intro _ hw';obtain⟨⟨dq,osq⟩,hw''⟩:=hw';subst hw'';have HBN:=hid (HBJ.out.trans ((below_regrown wr dq osq).mono HBJ.out.size));clear j0 j1 k0 k1 k2 k3 k4 r0 hcj;cases eb with
           | false=>
            have HF:Hid (res=false):=hid (HBAD.out (by rw[HRO.out,HAL.out,← HEB.out];rfl));go_wp2;go_ret;exact⟨ret_bool HF.out.symm,HBF.out.trans (HBN.out.mono HBF.out.size)⟩
           | true=>
            have HS2:Hid (zs.all (elB st vs.length)=(zs.drop (j+1)).all (elB st vs.length)):=hid (by rw[HAL.out,← HEB.out];rfl);go_wp2;go_roundw
            case rel=>exact⟨j+1,HJ.out,(by first | rfl | (rw[HWJ.out];rfl)),HBN,HS2⟩
            case measure=>(try rw[HWJ.out]);exact meas_step HJ.out
          ·obtain rfl:j=zs.length:=Nat.le_antisymm hj (Nat.le_of_not_lt hjl);have HOV:Hid (okRow st vs.length hood.length (zs,out)=true):=hid (by rw[HRO.out,HS.out,List.drop_length];rfl);have HD2:Hid ((rs.map Rh.rw_).all (okRow st vs.length hood.length)=((rs.drop (i+1)).map Rh.rw_).all (okRow st vs.length hood.length)):=hid (by rw[HAD.out,HOV.out];rfl);have HBZ:=hid (HBB.out.trans (HBJ.out.mono HBB.out.size));clear hj hjl;go_wp2;go_roundw
           case rel=>exact⟨i+1,HI.out,(by first | rfl | (rw[HWI.out];rfl)),HBZ,HD2⟩
           case measure=>(try rw[HWI.out]);exact meas_step HI.out
        ·have HF:Hid (res=false):=hid (HBAD.out (by unfold okRow;dsimp only;rw[decide_eq_false e4,decide_eq_false (by omega:¬ 0≤out)];simp));have HM:=hid e4;clear e3 e4;go_wp2_with (go_at_call 33;refine HEO.out.mono ?_;rintro e w5 ⟨rfl,hb5⟩;refine Hid.out ?_);refine hid ?_;have HB5:=hid hb5;have HP5:=hid (HPB.out.below hb5 HPB.out.lt);have HR5:=hid (HRB.out.below hb5 HRB.out.lt);have HI5:=hid (HIA.out.ext hb5);clear hb5 r0 r1 x0 x1 x2 x3 x4;have r0:=HR5.out.cell_ 0 (.slice xA zs.length xc) rfl;have r1:=HR5.out.cell_ 1 (.int .i64 out) rfl;have HCN:Hid (Calls Tryz.prog 24 #[.slice xA zs.length xc,.int .i64 out] w5 fun e w'=>e=.returned (.bool (decide (out ∈ zs)))∧w5=w'):=hid ((has_any xA zs xc out w5 HI5.out).mono fun e w' h=>⟨h.1,h.2.symm⟩);rw[decide_eq_false HM.out] at HCN;go_wp2_with (go_at_call 24;refine HCN.out.mono ?_;rintro e w6 ⟨rfl,rfl⟩;refine Hid.out ?_);refine hid ?_;go_wp2;go_ret;exact⟨ret_bool HF.out.symm,HBF.out.trans (HB5.out.mono HBF.out.size)⟩
       ·have q3:decide (out < 0)=false:=decide_eq_false e3;have HRO:Hid (okRow st vs.length hood.length (zs,out)=zs.all (elB st vs.length)):=hid (by unfold okRow;dsimp only;rw[decide_eq_true HE1.out,HE2.out,decide_eq_true (by omega:0≤out)];simp);clear e3;go_wp2_with (go_at_call 33;refine HEO.out.mono ?_;rintro e w5 ⟨rfl,hb5⟩;refine Hid.out ?_);refine hid ?_;have HB5:=hid hb5;have HP5:=hid (HPB.out.below hb5 HPB.out.lt);have HR5:=hid (HRB.out.below hb5 HRB.out.lt);have HI5:=hid (HIA.out.ext hb5);clear hb5 r0 r1 x0 x1 x2 x3 x4;have r0:=HR5.out.cell_ 0 (.slice xA zs.length xc) rfl;have r1:=HR5.out.cell_ 1 (.int .i64 out) rfl;go_upto_region 20 with fail
        clear r0 r1;go_loopw [7] (fun jv wr=>∃ j:Nat,j≤zs.length∧jv=.int .i64 j∧Hid (Below wb.heap.size wb wr)∧Hid (zs.all (elB st vs.length)=(zs.drop j).all (elB st vs.length))) (fun jv _=>zs.length - (intOf jv).toNat)
        case atStart=>exact⟨0,Nat.zero_le _,rfl,HB5,hid rfl⟩
        case round=>
         obtain⟨j,hj,rfl,HBJ,HS⟩:=hrel;have HPJ:=hid (HPB.out.below HBJ.out HPB.out.lt);have HRJ:=hid (HRB.out.below HBJ.out HRB.out.lt);have r0:=HRJ.out.cell_ 0 (.slice xA zs.length xc) rfl;by_cases hjl:j < zs.length
         ·obtain⟨xb,xo,ex,-,hcj⟩:=(HIA.out.ext HBJ.out).at_ hjl;subst ex;have HAL:=hid (HS.out.trans (all_drop0 (elB st vs.length) hjl));obtain⟨n,hn⟩:∃ s,s=zs[j]:=⟨_,rfl⟩
          rw[← hn] at hcj HAL;have HJ:=hid hjl;have hwj:wrap64 ((j:Int)+1)=(j:Int)+1:=by unfold wrap64;omega
          have HWJ:=hid hwj;obtain⟨eb,heb⟩:∃ b,b=elB st vs.length n:=⟨_,rfl⟩
          have HEN:Hid (∀ d os,Calls Tryz.prog 33 #[.agg #[.int .i64 st,.int .i64 sym,.slice hA hood.length hc,.slice vA vs.length vc,.slice (some ⟨rb,ro,none⟩) rs.length rc],.int .i64 n] (grow (redrawn wr d) os) fun e w''=>e=.returned (.bool eb)∧∃ p:Regrown,w''=grow (redrawn wr p.1) p.2):=hid (fun d os=>by rw[heb];exact Calls.regrown_of (HEL.out n _));have HEB:=hid heb;clear hn hj hwj heb;go_upto_region 22 with fail
          have j0:=cell_regrown r0;have j1:=cell_regrown hcj;have k0:=cell_regrown (HPJ.out.cell_ 0 (.int .i64 st) rfl);have k1:=cell_regrown (HPJ.out.cell_ 1 (.int .i64 sym) rfl);have k2:=cell_regrown (HPJ.out.cell_ 2 (.slice hA hood.length hc) rfl);have k3:=cell_regrown (HPJ.out.cell_ 3 (.slice vA vs.length vc) rfl);have k4:=cell_regrown (HPJ.out.cell_ 4 (.slice (some ⟨rb,ro,none⟩) rs.length rc) rfl);refine wp_region_quiet_below (by kernel_rfl) (by kernel_rfl) ?_;repeat (go_big_quiet_step (first | with_reducible exact HEN.out _ _))
          refine wpQuiet_nil ?_;intro _ hw';obtain⟨⟨dq,osq⟩,hw''⟩:=hw';subst hw'';have HBN:=hid (HBJ.out.trans ((below_regrown wr dq osq).mono HBJ.out.size));clear j0 j1 k0 k1 k2 k3 k4 r0 hcj;cases eb with
          | false=>
           have HF:Hid (res=false):=hid (HBAD.out (by rw[HRO.out,HAL.out,← HEB.out];rfl));go_wp2;go_ret;exact⟨ret_bool HF.out.symm,HBF.out.trans (HBN.out.mono HBF.out.size)⟩
          | true=>
           have HS2:Hid (zs.all (elB st vs.length)=(zs.drop (j+1)).all (elB st vs.length)):=hid (by rw[HAL.out,← HEB.out];rfl);go_wp2;go_roundw
           case rel=>exact⟨j+1,HJ.out,(by first | rfl | (rw[HWJ.out];rfl)),HBN,HS2⟩
           case measure=>(try rw[HWJ.out]);exact meas_step HJ.out
         ·obtain rfl:j=zs.length:=Nat.le_antisymm hj (Nat.le_of_not_lt hjl);have HOV:Hid (okRow st vs.length hood.length (zs,out)=true):=hid (by rw[HRO.out,HS.out,List.drop_length];rfl);have HD2:Hid ((rs.map Rh.rw_).all (okRow st vs.length hood.length)=((rs.drop (i+1)).map Rh.rw_).all (okRow st vs.length hood.length)):=hid (by rw[HAD.out,HOV.out];rfl);have HBZ:=hid (HBB.out.trans (HBJ.out.mono HBB.out.size));clear hj hjl;go_wp2;go_roundw
          case rel=>exact⟨i+1,HI.out,(by first | rfl | (rw[HWI.out];rfl)),HBZ,HD2⟩
          case measure=>(try rw[HWI.out]);exact meas_step HI.out
     ·have q1:((zs.length:Int) != (hood.length:Int))=true:=by simp;omega
      have q1':(zs.length != hood.length)=true:=by simp[e1]
      have HF:Hid (res=false):=hid (HBAD.out (by unfold okRow;dsimp only;rw[decide_eq_false e1];simp));clear e1;go_wp2;go_ret;exact⟨ret_bool HF.out.symm,HBF.out⟩
    ·obtain rfl:i=rs.length:=Nat.le_antisymm hi (Nat.le_of_not_lt hil);have HF:Hid (res=true):=hid (by rw[HRES3.out,HD.out,List.drop_length];rfl);have x4:=HPW.out.cell_ 4 (.slice rA rs.length rc) rfl;clear hi hil;go_wp2;go_ret;exact⟨ret_bool HF.out.symm,HBE.out.trans (HBW.out.mono HBE.out.size)⟩
end Go.Proofs.YtcmbdhopmncmnaaGreatDoor
namespace Go.Proofs.YtcmbdhopmncmnaaGreatDoor
open Lib(hid)
set_option linter.unusedSimpArgs false
set_option linter.unusedVariables false
open Go.RowKit
set_option maxRecDepth 100000

set_option maxHeartbeats 400000 in
theorem sameIntsR (A B:Option Addr)(xs ys:List Int)(c d:Nat)(w:World)(ha:Ints w A xs)(hb:Ints w B ys) :
  Calls Tryz.prog 40 #[.slice A xs.length c,.slice B ys.length d] w fun e w'=>e=.returned (.bool (decide (xs=ys)))∧Qt w w':=by
 have hn:=ha.le;have hm:=hb.le;by_cases hl:xs.length=ys.length
 ·have hd:((xs.length:Int) != ys.length)=false:=by simp[hl]
  have HL:=hid hl;clear hl;go_enter Tryz.func40,Tryz.ntmps40;go_wp2;go_loopw [5] (fun i wr=>∃ k q:Nat,k≤xs.length∧i=.int .i64 k∧wr=w.drewN q∧Hid (xs.take k=ys.take k)) (fun i _=>xs.length - (intOf i).toNat)
  case atStart=>exact⟨0,0,Nat.zero_le _,rfl,rfl,hid rfl⟩
  case round=>
   obtain⟨k,q,hk,rfl,rfl,HT⟩:=hrel;by_cases hlt:k < xs.length
   ·have hlt2:k < ys.length:=by have:=HL.out;omega
    obtain⟨b1,o1,rfl,-,hc⟩:=ha.at_ hlt;obtain⟨b2,o2,rfl,-,hc2⟩:=hb.at_ hlt2;go_wp2;go_quiet (fail)
    go_wp2
    ·have hne:¬ xs[k]=ys[k]:=by simpa using ‹(xs[k] != ys[k])=true›
     go_ret;refine⟨ret_bool (decide_eq_false ?_).symm,(Qt.drewN _ _).step _⟩;rintro rfl;exact hne rfl
    ·have he:xs[k]=ys[k]:=by simpa using ‹(xs[k] != ys[k])=false›
     go_roundw
     case rel=>exact⟨k+1,_,by omega,by go_num,rfl,hid (take_eq_snoc HT.out hlt hlt2 he)⟩
     case measure=>simp[intOf];omega
   ·have hk':k=xs.length:=by omega
    have hfin:xs=ys:=by
     have:=HT.out;rwa [hk',List.take_of_length_le (Nat.le_refl _),List.take_of_length_le (by rw[HL.out];exact Nat.le_refl _)] at this
    clear hk';have HF:=hid hfin;clear hfin;go_wp2;go_ret;exact⟨ret_bool (decide_eq_true HF.out).symm,Qt.drewN _ _⟩
 ·have hd:((xs.length:Int) != ys.length)=true:=by simp;omega
  have hf:¬ xs=ys:=by
   rintro rfl;exact hl rfl
  have HF:=hid hf;clear hl hf;go_enter Tryz.func40,Tryz.ntmps40;go_wp2;go_ret;exact⟨ret_bool (decide_eq_false HF.out).symm,Qt.refl _⟩

set_option maxHeartbeats 400000 in
theorem samePtsR (A B:Option Addr)(xs ys:List (Int × Int))(c d:Nat)(w:World)(ha:Pts w A xs)(hb:Pts w B ys) :
  Calls Tryz.prog 39 #[.slice A xs.length c,.slice B ys.length d] w fun e w'=>e=.returned (.bool (decide (xs=ys)))∧Qt w w':=by
 have hn:=ha.le;have hm:=hb.le;by_cases hl:xs.length=ys.length
 ·have hd:((xs.length:Int) != ys.length)=false:=by simp[hl]
  have HL:=hid hl;clear hl;go_enter Tryz.func39,Tryz.ntmps39;go_wp2;go_loopw [5] (fun i wr=>∃ k q:Nat,k≤xs.length∧i=.int .i64 k∧wr=w.drewN q∧Hid (xs.take k=ys.take k)) (fun i _=>xs.length - (intOf i).toNat)
  case atStart=>exact⟨0,0,Nat.zero_le _,rfl,rfl,hid rfl⟩
  case round=>
   obtain⟨k,q,hk,rfl,rfl,HT⟩:=hrel;by_cases hlt:k < xs.length
   ·have hlt2:k < ys.length:=by have:=HL.out;omega
    obtain⟨b1,o1,rfl,-,hc,hc'⟩:=ha.at_ hlt;obtain⟨b2,o2,rfl,-,hc2,hc2'⟩:=hb.at_ hlt2;go_wp2;have hst:=Tryz.stood_pt;have heg:=Tryz.guard_pt;have hnq:=neq_pt;go_quiet (fail)
    go_wp2
    ·have hne:¬ xs[k]=ys[k]:=ptNe_true ‹_›;go_ret;refine⟨ret_bool (decide_eq_false ?_).symm,(Qt.drewN _ _).step _⟩;rintro rfl;exact hne rfl
    ·have he:xs[k]=ys[k]:=ptNe_false ‹_›;go_roundw
     case rel=>exact⟨k+1,_,by omega,by go_num,rfl,hid (take_eq_snoc HT.out hlt hlt2 he)⟩
     case measure=>simp[intOf];omega
   ·have hk':k=xs.length:=by omega
    have hfin:xs=ys:=by
     have:=HT.out;rwa [hk',List.take_of_length_le (Nat.le_refl _),List.take_of_length_le (by rw[HL.out];exact Nat.le_refl _)] at this
    clear hk';have HF:=hid hfin;clear hfin;go_wp2;go_ret;exact⟨ret_bool (decide_eq_true HF.out).symm,Qt.drewN _ _⟩
 ·have hd:((xs.length:Int) != ys.length)=true:=by simp;omega
  have hf:¬ xs=ys:=by
   rintro rfl;exact hl rfl
  have HF:=hid hf;clear hl hf;go_enter Tryz.func39,Tryz.ntmps39;go_wp2;go_ret;exact⟨ret_bool (decide_eq_false HF.out).symm,Qt.refl _⟩
theorem bne_ii {a b:Int}:(a=b→(a != b)=false)∧(a≠b→(a != b)=true):=⟨fun h=>by rw[h];simp,fun h=>by rw[bne_iff_ne];exact h⟩
theorem bne_nn {a b:Nat}:(a=b→((a:Int) != (b:Int))=false)∧(a≠b→((a:Int) != (b:Int))=true):=⟨fun h=>by rw[h];simp,fun h=>by rw[bne_iff_ne];omega⟩
theorem lt_ii {i n:Nat}(h:i < n):(i:Int) < (n:Int):=by omega
theorem wrap_9 {i n:Nat}(h:i < n)(hn:n≤9223372036854775807):wrap64 ((i:Int)+1)=(i:Int)+1:=by unfold wrap64;omega
set_option maxHeartbeats 16000000 in
theorem rsame11_any (x y:TabH)(hA vA rA:Option Addr)(hc vc rc:Nat)(hA' vA' rA':Option Addr)(hc' vc' rc':Nat)(w:World)(hx:TabR w hA vA rA x)(hy:TabR w hA' vA' rA' y) :
  Calls Tryz.prog 13 #[tabV hA hc vA vc rA rc x,tabV hA' hc' vA' vc' rA' rc' y] w fun e w'=>e=.returned (.bool (sameTB x.tab y.tab))∧Below w.heap.size w w':=by
 obtain⟨res,hres⟩:∃ r,r=sameTB x.tab y.tab:=⟨_,rfl⟩
 rw[← hres];have hyes:x.tab=y.tab→res=true:=fun h=>by rw[hres];exact (sameTB_iff _ _).2 h
 have hno:x.tab≠y.tab→res=false:=fun h=>by
  rw[hres];cases hb:sameTB x.tab y.tab with
  | false=>rfl
  | true=>exact absurd ((sameTB_iff _ _).1 hb) h
 clear hres;obtain⟨st,sym,hood,vs,rs⟩:=x;obtain⟨st',sym',hood',vs',rs'⟩:=y;unfold TabH.tab at hyes hno;simp only[ne_eq,TabL.mk.injEq] at hyes hno;have HYES:=hid hyes;have HNO:=hid hno;unfold tabV;dsimp only;obtain⟨w0,hw0⟩:∃ w0,w0=(w.alloc (.cells #[.int .i64 st,.int .i64 sym,.slice hA hood.length hc,.slice vA vs.length vc,.slice rA rs.length rc] 26)).alloc (.cells #[.int .i64 st',.int .i64 sym',.slice hA' hood'.length hc',.slice vA' vs'.length vc',.slice rA' rs'.length rc'] 26):=⟨_,rfl⟩
 have hb0:Below w.heap.size w w0:=by rw[hw0];exact (below_new _ _).alloc (by simp) _
 have p0:Blk w0 w.heap.size 26 #[.int .i64 st,.int .i64 sym,.slice hA hood.length hc,.slice vA vs.length vc,.slice rA rs.length rc]:=by rw[hw0];exact (Blk.new w _ _).alloc _
 have q0:Blk w0 (w.heap.size+1) 26 #[.int .i64 st',.int .i64 sym',.slice hA' hood'.length hc',.slice vA' vs'.length vc',.slice rA' rs'.length rc']:=by rw[hw0];have:=Blk.new (w.alloc (.cells #[.int .i64 st,.int .i64 sym,.slice hA hood.length hc,.slice vA vs.length vc,.slice rA rs.length rc] 26)) 26 #[.int .i64 st',.int .i64 sym',.slice hA' hood'.length hc',.slice vA' vs'.length vc',.slice rA' rs'.length rc'];rw[World.size_alloc] at this;exact this
 have HX:=hid (And.intro (hx.ext hb0) (hy.ext hb0));have hv9:vs.length≤9223372036854775807:=hx.vars.le;have hr9:rs.length≤9223372036854775807:=hx.rows.le;have hv9':vs'.length≤9223372036854775807:=hy.vars.le;have hr9':rs'.length≤9223372036854775807:=hy.rows.le;have HB:=hid hb0;have HW:=hid hw0;have HP:=hid p0;have HQ:=hid q0;have HCALL:=hid (samePtsR hA hA' hood hood' hc hc' w0 (hx.ext hb0).hood (hy.ext hb0).hood);have x0:=p0.cell_ 0 (.int .i64 st) rfl;have y0:=q0.cell_ 0 (.int .i64 st') rfl;have x1:=p0.cell_ 1 (.int .i64 sym) rfl;have y1:=q0.cell_ 1 (.int .i64 sym') rfl;have x2:=p0.cell_ 2 (.slice hA hood.length hc) rfl;have y2:=q0.cell_ 2 (.slice hA' hood'.length hc') rfl;have x3:=p0.cell_ 3 (.slice vA vs.length vc) rfl;have y3:=q0.cell_ 3 (.slice vA' vs'.length vc') rfl;have x4:=p0.cell_ 4 (.slice rA rs.length rc) rfl;have y4:=q0.cell_ 4 (.slice rA' rs'.length rc') rfl;clear hb0 hw0 p0 q0 hx hy hyes hno;by_cases h1:st=st'
 rotate_left
 ·have d1:=(bne_ii (a:=st) (b:=st')).2 h1;have HF:Hid (res=false):=hid (HNO.out (fun h=>h1 h.1));clear h1;go_enter Tryz.func13,Tryz.ntmps13;go_upto_region 1 with fail
  rw[← HW.out];go_wp2;go_ret;exact⟨by first | (rw[HF.out];done) | (rw[HF.out];rfl),HB.out⟩
 have d1:=(bne_ii (a:=st) (b:=st')).1 h1;by_cases h2:sym=sym'
 rotate_left
 ·have d2:=(bne_ii (a:=sym) (b:=sym')).2 h2;have HF:Hid (res=false):=hid (HNO.out (fun h=>h2 h.2.1));clear h1 h2;go_enter Tryz.func13,Tryz.ntmps13;go_upto_region 1 with fail
  rw[← HW.out];go_wp2;go_ret;exact⟨by first | (rw[HF.out];done) | (rw[HF.out];rfl),HB.out⟩
 have d2:=(bne_ii (a:=sym) (b:=sym')).1 h2;by_cases h3:hood=hood'
 rotate_left
 ·rw[decide_eq_false h3] at HCALL;have HF:Hid (res=false):=hid (HNO.out (fun h=>h3 h.2.2.1));clear h1 h2 h3;go_enter Tryz.func13,Tryz.ntmps13;go_upto_region 1 with fail
  rw[← HW.out];go_wp2_with (go_at_call 39;refine HCALL.out.mono ?_;rintro e w1 ⟨rfl,hq⟩;refine Hid.out ?_);refine hid ?_;have HB1:Hid (Below w0.heap.size w0 w1):=hid (hq.below _);clear hq HCALL x0 y0 x1 y1 x2 y2 x3 y3 x4 y4;have HP1:=hid (HP.out.below HB1.out HP.out.lt);have HQ1:=hid (HQ.out.below HB1.out HQ.out.lt);have x0:=HP1.out.cell_ 0 (.int .i64 st) rfl;have y0:=HQ1.out.cell_ 0 (.int .i64 st') rfl;have x1:=HP1.out.cell_ 1 (.int .i64 sym) rfl;have y1:=HQ1.out.cell_ 1 (.int .i64 sym') rfl;have x2:=HP1.out.cell_ 2 (.slice hA hood.length hc) rfl;have y2:=HQ1.out.cell_ 2 (.slice hA' hood'.length hc') rfl;have x3:=HP1.out.cell_ 3 (.slice vA vs.length vc) rfl;have y3:=HQ1.out.cell_ 3 (.slice vA' vs'.length vc') rfl;have x4:=HP1.out.cell_ 4 (.slice rA rs.length rc) rfl;have y4:=HQ1.out.cell_ 4 (.slice rA' rs'.length rc') rfl;go_wp2;go_ret;exact⟨by first | (rw[HF.out];done) | (rw[HF.out];rfl),HB.out.trans (HB1.out.mono HB.out.size)⟩
 rw[decide_eq_true h3] at HCALL;by_cases h4:vs.length=vs'.length
 rotate_left
 ·have d4:=(bne_nn (a:=vs.length) (b:=vs'.length)).2 h4;have HF:Hid (res=false):=hid (HNO.out (fun h=>map_len_ne h4 h.2.2.2.1));clear h1 h2 h3 h4;go_enter Tryz.func13,Tryz.ntmps13;go_upto_region 1 with fail
  rw[← HW.out];go_wp2_with (go_at_call 39;refine HCALL.out.mono ?_;rintro e w1 ⟨rfl,hq⟩;refine Hid.out ?_);refine hid ?_;have HB1:Hid (Below w0.heap.size w0 w1):=hid (hq.below _);clear hq HCALL x0 y0 x1 y1 x2 y2 x3 y3 x4 y4;have HP1:=hid (HP.out.below HB1.out HP.out.lt);have HQ1:=hid (HQ.out.below HB1.out HQ.out.lt);have x0:=HP1.out.cell_ 0 (.int .i64 st) rfl;have y0:=HQ1.out.cell_ 0 (.int .i64 st') rfl;have x1:=HP1.out.cell_ 1 (.int .i64 sym) rfl;have y1:=HQ1.out.cell_ 1 (.int .i64 sym') rfl;have x2:=HP1.out.cell_ 2 (.slice hA hood.length hc) rfl;have y2:=HQ1.out.cell_ 2 (.slice hA' hood'.length hc') rfl;have x3:=HP1.out.cell_ 3 (.slice vA vs.length vc) rfl;have y3:=HQ1.out.cell_ 3 (.slice vA' vs'.length vc') rfl;have x4:=HP1.out.cell_ 4 (.slice rA rs.length rc) rfl;have y4:=HQ1.out.cell_ 4 (.slice rA' rs'.length rc') rfl;go_wp2;go_ret;exact⟨by first | (rw[HF.out];done) | (rw[HF.out];rfl),HB.out.trans (HB1.out.mono HB.out.size)⟩
 have d4:=(bne_nn (a:=vs.length) (b:=vs'.length)).1 h4;by_cases h5:rs.length=rs'.length
 rotate_left
 ·have d5:=(bne_nn (a:=rs.length) (b:=rs'.length)).2 h5;have HF:Hid (res=false):=hid (HNO.out (fun h=>map_len_ne h5 h.2.2.2.2));clear h1 h2 h3 h4 h5;go_enter Tryz.func13,Tryz.ntmps13;go_upto_region 1 with fail
  rw[← HW.out];go_wp2_with (go_at_call 39;refine HCALL.out.mono ?_;rintro e w1 ⟨rfl,hq⟩;refine Hid.out ?_);refine hid ?_;have HB1:Hid (Below w0.heap.size w0 w1):=hid (hq.below _);clear hq HCALL x0 y0 x1 y1 x2 y2 x3 y3 x4 y4;have HP1:=hid (HP.out.below HB1.out HP.out.lt);have HQ1:=hid (HQ.out.below HB1.out HQ.out.lt);have x0:=HP1.out.cell_ 0 (.int .i64 st) rfl;have y0:=HQ1.out.cell_ 0 (.int .i64 st') rfl;have x1:=HP1.out.cell_ 1 (.int .i64 sym) rfl;have y1:=HQ1.out.cell_ 1 (.int .i64 sym') rfl;have x2:=HP1.out.cell_ 2 (.slice hA hood.length hc) rfl;have y2:=HQ1.out.cell_ 2 (.slice hA' hood'.length hc') rfl;have x3:=HP1.out.cell_ 3 (.slice vA vs.length vc) rfl;have y3:=HQ1.out.cell_ 3 (.slice vA' vs'.length vc') rfl;have x4:=HP1.out.cell_ 4 (.slice rA rs.length rc) rfl;have y4:=HQ1.out.cell_ 4 (.slice rA' rs'.length rc') rfl;go_wp2;go_ret;exact⟨by first | (rw[HF.out];done) | (rw[HF.out];rfl),HB.out.trans (HB1.out.mono HB.out.size)⟩
 have d5:=(bne_nn (a:=rs.length) (b:=rs'.length)).1 h5;have HE:=hid (And.intro h1 (And.intro h2 (And.intro h3 (And.intro h4 h5))));have HV9:=hid (And.intro hv9 hr9);clear h1 h2 h3 h4 h5;go_enter Tryz.func13,Tryz.ntmps13;go_upto_region 1 with fail
 rw[← HW.out];go_wp2_with (go_at_call 39;refine HCALL.out.mono ?_;rintro e w1 ⟨rfl,hq⟩;refine Hid.out ?_);refine hid ?_;have HB1:Hid (Below w0.heap.size w0 w1):=hid (hq.below _);clear hq HCALL x0 y0 x1 y1 x2 y2 x3 y3 x4 y4;have HP1:=hid (HP.out.below HB1.out HP.out.lt);have HQ1:=hid (HQ.out.below HB1.out HQ.out.lt);have x0:=HP1.out.cell_ 0 (.int .i64 st) rfl;have y0:=HQ1.out.cell_ 0 (.int .i64 st') rfl;have x1:=HP1.out.cell_ 1 (.int .i64 sym) rfl;have y1:=HQ1.out.cell_ 1 (.int .i64 sym') rfl;have x2:=HP1.out.cell_ 2 (.slice hA hood.length hc) rfl;have y2:=HQ1.out.cell_ 2 (.slice hA' hood'.length hc') rfl;have x3:=HP1.out.cell_ 3 (.slice vA vs.length vc) rfl;have y3:=HQ1.out.cell_ 3 (.slice vA' vs'.length vc') rfl;have x4:=HP1.out.cell_ 4 (.slice rA rs.length rc) rfl;have y4:=HQ1.out.cell_ 4 (.slice rA' rs'.length rc') rfl;go_wp2;clear x0 y0 x1 y1 x2 y2 x3 y3 x4 y4;clear d1 d2 d4 d5;go_loopw [5] (fun iv wr=>∃ i:Nat,i≤vs.length∧iv=.int .i64 i∧Hid (Below w0.heap.size w0 wr)∧Hid ((vs.take i).map Vh.zs=(vs'.take i).map Vh.zs)) (fun iv _=>vs.length - (intOf iv).toNat)
 case atStart=>exact⟨0,Nat.zero_le _,rfl,HB1,hid rfl⟩
 case round=>
  obtain⟨i,hi,rfl,HBI,HT⟩:=hrel;have HPI:=hid (HP.out.below HBI.out HP.out.lt);have HQI:=hid (HQ.out.below HBI.out HQ.out.lt);by_cases hil:i < vs.length
  ·have hil':i < vs'.length:=by rw[← HE.out.2.2.2.1];exact hil
   have hwi:=wrap_9 hil HV9.out.1;have hvx:=HX.out.1.vars.ext HBI.out;have hvy:=HX.out.2.vars.ext HBI.out;obtain⟨vb,vo,ea,hlta,hca,hia⟩:=hvx.at_ hil;obtain⟨vb',vo',eb,hltb,hcb,hib⟩:=hvy.at_ hil';have HYS:Hid (vs[i].zs=vs'[i].zs→(vs.take (i+1)).map Vh.zs=(vs'.take (i+1)).map Vh.zs):=hid (fun h=>map_take_snoc HT.out hil hil' h);have HNS:Hid (vs[i].zs≠vs'[i].zs→res=false):=hid (fun h=>HNO.out (fun e=>h (map_at e.2.2.2.1 hil hil')));obtain⟨xh,hxh⟩:∃ z,z=vs[i]'hil:=⟨_,rfl⟩
   obtain⟨yh,hyh⟩:∃ z,z=vs'[i]'hil':=⟨_,rfl⟩
   rw[← hxh] at hca hia HYS HNS;rw[← hyh] at hcb hib HYS HNS;obtain⟨xA,xc,zs⟩:=xh;obtain⟨yA,yc,zs'⟩:=yh;dsimp only at hca hia hcb hib HYS HNS;have HI:=hid hil;have hiI:=lt_ii hil;have hiI':=lt_ii hil';have HWI:=hid hwi;have HSM:Hid (∀ m,Calls Tryz.prog 40 #[.slice xA zs.length xc,.slice yA zs'.length yc] (wr.drewN m) fun e w'=>e=.returned (.bool (decide (zs=zs')))∧∃ k,w'=(wr.drewN m).drewN k):=hid (fun m=>sameIntsR xA yA zs zs' xc yc (wr.drewN m) hia hib);subst ea eb;have x3:=HPI.out.cell_ 3 (.slice (some ⟨vb,vo,none⟩) vs.length vc) rfl;have y3:=HQI.out.cell_ 3 (.slice (some ⟨vb',vo',none⟩) vs'.length vc') rfl;clear hxh hyh hvx hvy hia hib hlta hltb hi hil hil';by_cases hzz:zs=zs'
   ·rw[decide_eq_true hzz] at HSM;have HT2:=hid (HYS.out hzz);clear hzz;go_wp2;go_quiet ((go_at_call 40;exact Calls.quiet_of (HSM.out _)))
    have HBN:=hid (below_drewN HBI.out nq);clear x3 y3 hca hcb;go_wp2;go_roundw
    case rel=>exact⟨i+1,HI.out,(by first | rfl | (rw[HWI.out];done) | (rw[HWI.out];rfl)),HBN,HT2⟩
    case measure=>(try rw[HWI.out]);exact meas11 HI.out
   ·rw[decide_eq_false hzz] at HSM;have HF:=hid (HNS.out hzz);clear hzz;go_wp2;go_quiet ((go_at_call 40;exact Calls.quiet_of (HSM.out _)))
    have HBN:=hid (below_drewN HBI.out nq);clear x3 y3 hca hcb;go_wp2;go_ret;exact⟨by first | (rw[HF.out];done) | (rw[HF.out];rfl),HB.out.trans (HBN.out.mono HB.out.size)⟩
  ·obtain rfl:i=vs.length:=Nat.le_antisymm hi (Nat.le_of_not_lt hil);have HTV:Hid (vs.map Vh.zs=vs'.map Vh.zs):=hid (map_full HT.out HE.out.2.2.2.1);have x3:=HPI.out.cell_ 3 (.slice vA vs.length vc) rfl;have hge:¬ (vs.length:Int) < (vs.length:Int):=Int.lt_irrefl _;clear hi hil HT;go_wp2;clear x3 hge;go_loopw [6] (fun iv wr=>∃ i:Nat,i≤rs.length∧iv=.int .i64 i∧Hid (Below w0.heap.size w0 wr)∧Hid ((rs.take i).map Rh.rw_=(rs'.take i).map Rh.rw_)) (fun iv _=>rs.length - (intOf iv).toNat)
   case atStart=>exact⟨0,Nat.zero_le _,rfl,HBI,hid rfl⟩
   case round=>
    clear HBI HPI HQI;obtain⟨i,hi,rfl,HBI,HT⟩:=hrel;have HPI:=hid (HP.out.below HBI.out HP.out.lt);have HQI:=hid (HQ.out.below HBI.out HQ.out.lt);by_cases hil:i < rs.length
    ·have hil':i < rs'.length:=by rw[← HE.out.2.2.2.2];exact hil
     have hwi:=wrap_9 hil HV9.out.2;have hvx:=HX.out.1.rows.ext HBI.out;have hvy:=HX.out.2.rows.ext HBI.out;obtain⟨rb,ro,ea,hlta,hca,hda,hia⟩:=hvx.at_ hil;obtain⟨rb',ro',eb,hltb,hcb,hdb,hib⟩:=hvy.at_ hil';have HYS:Hid (rs[i].rw_=rs'[i].rw_→(rs.take (i+1)).map Rh.rw_=(rs'.take (i+1)).map Rh.rw_):=hid (fun h=>map_take_snoc HT.out hil hil' h);have HNS:Hid (rs[i].rw_≠rs'[i].rw_→res=false):=hid (fun h=>HNO.out (fun e=>h (map_at e.2.2.2.2 hil hil')));obtain⟨xh,hxh⟩:∃ z,z=rs[i]'hil:=⟨_,rfl⟩
     obtain⟨yh,hyh⟩:∃ z,z=rs'[i]'hil':=⟨_,rfl⟩
     rw[← hxh] at hca hda hia HYS HNS;rw[← hyh] at hcb hdb hib HYS HNS;obtain⟨xA,xc,zs,out⟩:=xh;obtain⟨yA,yc,zs',out'⟩:=yh;unfold Rh.rw_ at HYS HNS;dsimp only at hca hda hia hcb hdb hib HYS HNS;have HI:=hid hil;have hiI:=lt_ii hil;have hiI':=lt_ii hil';have HWI:=hid hwi;have HSM:Hid (∀ m,Calls Tryz.prog 40 #[.slice xA zs.length xc,.slice yA zs'.length yc] (wr.drewN m) fun e w'=>e=.returned (.bool (decide (zs=zs')))∧∃ k,w'=(wr.drewN m).drewN k):=hid (fun m=>sameIntsR xA yA zs zs' xc yc (wr.drewN m) hia hib);subst ea eb;have x4:=HPI.out.cell_ 4 (.slice (some ⟨rb,ro,none⟩) rs.length rc) rfl;have y4:=HQI.out.cell_ 4 (.slice (some ⟨rb',ro',none⟩) rs'.length rc') rfl;clear hxh hyh hvx hvy hia hib hlta hltb hi hil hil';by_cases hoo:out=out'
     ·have q1:=(bne_ii (a:=out) (b:=out')).1 hoo;by_cases hzz:zs=zs'
      ·rw[decide_eq_true hzz] at HSM;have HT2:=hid (HYS.out (by rw[hzz,hoo]));clear hzz hoo;go_wp2;go_quiet ((go_at_call 40;exact Calls.quiet_of (HSM.out _)))
       have HBN:=hid (below_drewN HBI.out nq);clear x4 y4 hca hcb hda hdb;go_wp2;go_roundw
       case rel=>exact⟨i+1,HI.out,(by first | rfl | (rw[HWI.out];done) | (rw[HWI.out];rfl)),HBN,HT2⟩
       case measure=>(try rw[HWI.out]);exact meas11 HI.out
      ·rw[decide_eq_false hzz] at HSM;have HF:=hid (HNS.out (fun h=>hzz (by injection h)));clear hzz hoo;go_wp2;go_quiet ((go_at_call 40;exact Calls.quiet_of (HSM.out _)))
       have HBN:=hid (below_drewN HBI.out nq);clear x4 y4 hca hcb hda hdb;go_wp2;go_ret;exact⟨by first | (rw[HF.out];done) | (rw[HF.out];rfl),HB.out.trans (HBN.out.mono HB.out.size)⟩
     ·have q1:=(bne_ii (a:=out) (b:=out')).2 hoo;have HF:=hid (HNS.out (fun h=>hoo (by injection h)));clear hoo;go_wp2;go_quiet ((go_at_call 40;exact Calls.quiet_of (HSM.out _)))
      have HBN:=hid (below_drewN HBI.out nq);clear x4 y4 hca hcb hda hdb;go_wp2;go_ret;exact⟨by first | (rw[HF.out];done) | (rw[HF.out];rfl),HB.out.trans (HBN.out.mono HB.out.size)⟩
    ·obtain rfl:i=rs.length:=Nat.le_antisymm hi (Nat.le_of_not_lt hil);have HF:Hid (res=true):=hid (HYES.out ⟨HE.out.1,HE.out.2.1,HE.out.2.2.1,HTV.out,map_full HT.out HE.out.2.2.2.2⟩);have x4:=HPI.out.cell_ 4 (.slice rA rs.length rc) rfl;have hge:¬ (rs.length:Int) < (rs.length:Int):=Int.lt_irrefl _;clear hi hil HT;go_wp2;go_ret;exact⟨by first | (rw[HF.out];done) | (rw[HF.out];rfl),HB.out.trans (HBI.out.mono HB.out.size)⟩
end Go.Proofs.YtcmbdhopmncmnaaGreatDoor
