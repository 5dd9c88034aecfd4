/-
  texts RR11 RTurn11 RPerm11: parts of the proof; conditions stand with each theorem.
-/
import Derived.Test.YtlegfdllipkggaaGreatDoorWG11
import Derived.Test.YtlegfdllipkggaaGreatDoorWG22
namespace Go.Proofs.YtlegfdllipkggaaGreatDoor
open Lib(hid)
open Go.RowKit Go.Sort
set_option maxRecDepth 100000
set_option linter.unusedVariables false
set_option linter.unusedSimpArgs false
theorem rvalue11_any (st sym:Int)(hA:Option Addr)(nh hc:Nat)(vA:Option Addr)(nv vc:Nat)(rA:Option Addr)(nr rc:Nat)(n:Int)(w:World)(hv:nv≤1000000000) :
  Calls Tryz.prog 33 #[.agg #[.int .i64 st,.int .i64 sym,.slice hA nh hc,.slice vA nv vc,.slice rA nr rc],.int .i64 n] w fun e w'=>e=.returned (.bool (elB st nv n))∧Below w.heap.size w w':=by
 obtain⟨w0,hw0⟩:∃ w0,w0=w.alloc (.cells #[.int .i64 st,.int .i64 sym,.slice hA nh hc,.slice vA nv vc,.slice rA nr rc] 26):=⟨_,rfl⟩
 have hb0:Below w.heap.size w w0:=by rw[hw0];exact below_new _ _
 have p0:Blk w0 w.heap.size 26 #[.int .i64 st,.int .i64 sym,.slice hA nh hc,.slice vA nv vc,.slice rA nr rc]:=by rw[hw0];exact Blk.new _ _ _
 have HW0:=hid hw0;have HB0:=hid hb0;have c0:=p0.cell_ 0 (.int .i64 st) rfl;have c3:=p0.cell_ 3 (.slice vA nv vc) rfl;have hw:wrap64 (-(nv:Int)) = -(nv:Int):=by unfold wrap64;omega
 have hv9:nv≤9223372036854775807:=by omega
 obtain⟨r,hr⟩:∃ r,r=elB st nv n:=⟨_,rfl⟩
 rw[← hr];have HR:=hid hr;clear hr hv hw0 hb0 p0;by_cases h1:n < st
 ·have d1:decide (n < st)=true:=decide_eq_true h1;have HE:Hid (r=decide (-(nv:Int)≤n)):=hid (by rw[HR.out];unfold elB;rw[d1];rfl);clear h1;go_enter Tryz.func33,Tryz.ntmps33;go_upto_region 1 with fail
  rw[← HW0.out];go_wp2;go_ret;exact⟨ret_bool HE.out.symm,HB0.out⟩
 ·have d1:decide (n < st)=false:=decide_eq_false h1;have HE:Hid (r=false):=hid (by rw[HR.out];unfold elB;rw[d1];rfl);clear h1;go_enter Tryz.func33,Tryz.ntmps33;go_upto_region 1 with fail
  rw[← HW0.out];go_wp2;go_ret;exact⟨ret_bool HE.out.symm,HB0.out⟩
set_option maxHeartbeats 32000000 in
theorem rright11_any (hA:Option Addr)(hc:Nat)(vA:Option Addr)(vc:Nat)(rA:Option Addr)(rc:Nat)(t:TabH)(w:World)(hT:TabR w hA vA rA t) :
  Calls Tryz.prog 14 #[tabV hA hc vA vc rA rc t] w fun e w'=>e=.returned (.bool (rightTab t.tab))∧Below w.heap.size w w':=by
 obtain⟨st,sym,hood,vs,rs⟩:=t;unfold tabV;dsimp only;obtain⟨w0,hw0⟩:∃ w0,w0=w.alloc (.cells #[.int .i64 st,.int .i64 sym,.slice hA hood.length hc,.slice vA vs.length vc,.slice rA rs.length rc] 26):=⟨_,rfl⟩
 have hb0:Below w.heap.size w w0:=by rw[hw0];exact below_new _ _
 have p0:Blk w0 w.heap.size 26 #[.int .i64 st,.int .i64 sym,.slice hA hood.length hc,.slice vA vs.length vc,.slice rA rs.length rc]:=by rw[hw0];exact Blk.new _ _ _
 obtain⟨gT,hgT⟩:∃ g,g=w.heap.size:=⟨_,rfl⟩
 rw[← hgT] at p0;have HT:=hid (hT.ext hb0);have HCH:=hid (rhood_any hA hc hood w0 (hT.ext hb0).hood);have HCP:=hid (fun W (hW:Below w0.heap.size w0 W)=>rpermits_any hA hood hc sym W ((hT.ext hb0).hood.ext hW));have HB0:=hid hb0;have HP:=hid p0;have HW0:=hid (And.intro hw0 hgT);have hh9:hood.length≤9223372036854775807:=hT.hood.le;have hv9:vs.length≤9223372036854775807:=hT.vars.le;have hr9:rs.length≤9223372036854775807:=hT.rows.le;obtain⟨res,hres⟩:∃ r,r=rightTab (TabH.tab ⟨st,sym,hood,vs,rs⟩):=⟨_,rfl⟩
 rw[← hres];have HRES:Hid (res=(decide (2≤st) && decide (st≤8) && hoodB hood && permP hood sym && decide (vs.length≤40) && decide (rs.length≤400) && (vs.map Vh.zs).all (okVar st) && (rs.map Rh.rw_).all (okRow st vs.length hood.length))):=hid (by
  rw[hres];unfold rightTab headTab TabH.tab;dsimp only;rw[List.length_map,List.length_map])
 clear hb0 p0 hw0 hgT hT hres;have x0:=HP.out.cell_ 0 (.int .i64 st) rfl;have x1:=HP.out.cell_ 1 (.int .i64 sym) rfl;have x2:=HP.out.cell_ 2 (.slice hA hood.length hc) rfl;have x3:=HP.out.cell_ 3 (.slice vA vs.length vc) rfl;have x4:=HP.out.cell_ 4 (.slice rA rs.length rc) rfl;by_cases h1:st < 2
 ·have d1:decide (st < 2)=true:=decide_eq_true h1;have HF:Hid (res=false):=hid (by rw[HRES.out,decide_eq_false (by omega:¬ 2≤st)];rfl);clear h1;go_enter Tryz.func14,Tryz.ntmps14;go_upto_region 1 with fail
  rw[← HW0.out.1,← HW0.out.2];go_wp2;go_ret;exact⟨ret_bool HF.out.symm,HB0.out⟩
 have d1:decide (st < 2)=false:=decide_eq_false h1;by_cases h2:8 < st
 ·have d2:decide (8 < st)=true:=decide_eq_true h2;have HF:Hid (res=false):=hid (by rw[HRES.out,decide_eq_false (by omega:¬ st≤8)];simp);clear h1 h2;go_enter Tryz.func14,Tryz.ntmps14;go_upto_region 1 with fail
  rw[← HW0.out.1,← HW0.out.2];go_wp2;go_ret;exact⟨ret_bool HF.out.symm,HB0.out⟩
 have d2:decide (8 < st)=false:=decide_eq_false h2;have hpn:sym < 0∨3 < sym→permP hood sym=false:=fun h=>by unfold permP;rw[if_neg (by omega),if_neg (by omega),if_neg (by omega),if_neg (by omega)]
 by_cases g1:sym < 0
 ·have e1:decide (sym < 0)=true:=decide_eq_true g1;have HF:Hid (res=false):=hid (by rw[HRES.out,hpn (.inl g1)];simp);clear h1 h2 hpn g1;go_enter Tryz.func14,Tryz.ntmps14;go_upto_region 1 with fail
  rw[← HW0.out.1,← HW0.out.2];go_wp2;go_ret;exact⟨ret_bool HF.out.symm,HB0.out⟩
 have e1:decide (sym < 0)=false:=decide_eq_false g1;by_cases g2:3 < sym
 ·have e2:decide (3 < sym)=true:=decide_eq_true g2;have HF:Hid (res=false):=hid (by rw[HRES.out,hpn (.inr g2)];simp);clear h1 h2 hpn g1 g2;go_enter Tryz.func14,Tryz.ntmps14;go_upto_region 1 with fail
  rw[← HW0.out.1,← HW0.out.2];go_wp2;go_ret;exact⟨ret_bool HF.out.symm,HB0.out⟩
 have e2:decide (3 < sym)=false:=decide_eq_false g2;have HST:Hid (2≤st∧st≤8):=hid ⟨by omega,by omega⟩;clear h1 h2 g1 g2 hpn;cases h3:hoodB hood with
 | false=>
  have HF:Hid (res=false):=hid (by rw[HRES.out,h3];simp);rw[h3] at HCH;clear h3;go_enter Tryz.func14,Tryz.ntmps14;go_upto_region 1 with fail
  rw[← HW0.out.1,← HW0.out.2];go_wp2_with (go_at_call 31;refine HCH.out.mono ?_;rintro e w1 ⟨rfl,hb1⟩;refine Hid.out ?_);refine hid ?_;have HB1:=hid hb1;have HP1:=hid (HP.out.below hb1 HP.out.lt);clear hb1 x0 x1 x2 x3 x4;have x0:=HP1.out.cell_ 0 (.int .i64 st) rfl;have x1:=HP1.out.cell_ 1 (.int .i64 sym) rfl;have x2:=HP1.out.cell_ 2 (.slice hA hood.length hc) rfl;have x3:=HP1.out.cell_ 3 (.slice vA vs.length vc) rfl;have x4:=HP1.out.cell_ 4 (.slice rA rs.length rc) rfl;go_wp2;go_ret;exact⟨ret_bool HF.out.symm,HB0.out.trans (HB1.out.mono HB0.out.size)⟩
 | true=>
 have HHB:=hid h3;rw[h3] at HCH;cases h4:permP hood sym with
 | false=>
  have HF:Hid (res=false):=hid (by rw[HRES.out,h4];simp);rw[h4] at HCP;clear h3 h4;go_enter Tryz.func14,Tryz.ntmps14;go_upto_region 1 with fail
  rw[← HW0.out.1,← HW0.out.2];go_wp2_with (go_at_call 31;refine HCH.out.mono ?_;rintro e w1 ⟨rfl,hb1⟩;refine Hid.out ?_);refine hid ?_;have HB1:=hid hb1;have HP1:=hid (HP.out.below hb1 HP.out.lt);clear hb1 x0 x1 x2 x3 x4;have x0:=HP1.out.cell_ 0 (.int .i64 st) rfl;have x1:=HP1.out.cell_ 1 (.int .i64 sym) rfl;have x2:=HP1.out.cell_ 2 (.slice hA hood.length hc) rfl;have x3:=HP1.out.cell_ 3 (.slice vA vs.length vc) rfl;have x4:=HP1.out.cell_ 4 (.slice rA rs.length rc) rfl;have HCQ:=hid (HCP.out w1 HB1.out);go_wp2_with (go_at_call 32;refine HCQ.out.mono ?_;rintro e w2 ⟨rfl,hb2⟩;refine Hid.out ?_);refine hid ?_;have HB2:=hid (HB1.out.trans (hb2.mono HB1.out.size));have HP2:=hid (HP.out.below HB2.out HP.out.lt);clear hb2 x0 x1 x2 x3 x4;have x0:=HP2.out.cell_ 0 (.int .i64 st) rfl;have x1:=HP2.out.cell_ 1 (.int .i64 sym) rfl;have x2:=HP2.out.cell_ 2 (.slice hA hood.length hc) rfl;have x3:=HP2.out.cell_ 3 (.slice vA vs.length vc) rfl;have x4:=HP2.out.cell_ 4 (.slice rA rs.length rc) rfl;go_wp2;go_ret;exact⟨ret_bool HF.out.symm,HB0.out.trans (HB2.out.mono HB0.out.size)⟩
 | true=>
 rw[h4] at HCP;have HPM:=hid h4;clear h3 h4;by_cases h5:40 < vs.length
 ·have d5:decide ((40:Int) < (vs.length:Int))=true:=decide_eq_true (by omega);have d5':decide (40 < vs.length)=true:=decide_eq_true h5;have HF:Hid (res=false):=hid (by rw[HRES.out,decide_eq_false (by omega:¬ vs.length≤40)];simp);clear h5;go_enter Tryz.func14,Tryz.ntmps14;go_upto_region 1 with fail
  rw[← HW0.out.1,← HW0.out.2];go_wp2_with (go_at_call 31;refine HCH.out.mono ?_;rintro e w1 ⟨rfl,hb1⟩;refine Hid.out ?_);refine hid ?_;have HB1:=hid hb1;have HP1:=hid (HP.out.below hb1 HP.out.lt);clear hb1 x0 x1 x2 x3 x4;have x0:=HP1.out.cell_ 0 (.int .i64 st) rfl;have x1:=HP1.out.cell_ 1 (.int .i64 sym) rfl;have x2:=HP1.out.cell_ 2 (.slice hA hood.length hc) rfl;have x3:=HP1.out.cell_ 3 (.slice vA vs.length vc) rfl;have x4:=HP1.out.cell_ 4 (.slice rA rs.length rc) rfl;have HCQ:=hid (HCP.out w1 HB1.out);go_wp2_with (go_at_call 32;refine HCQ.out.mono ?_;rintro e w2 ⟨rfl,hb2⟩;refine Hid.out ?_);refine hid ?_;have HB2:=hid (HB1.out.trans (hb2.mono HB1.out.size));have HP2:=hid (HP.out.below HB2.out HP.out.lt);clear hb2 x0 x1 x2 x3 x4;have x0:=HP2.out.cell_ 0 (.int .i64 st) rfl;have x1:=HP2.out.cell_ 1 (.int .i64 sym) rfl;have x2:=HP2.out.cell_ 2 (.slice hA hood.length hc) rfl;have x3:=HP2.out.cell_ 3 (.slice vA vs.length vc) rfl;have x4:=HP2.out.cell_ 4 (.slice rA rs.length rc) rfl;go_wp2;go_ret;exact⟨ret_bool HF.out.symm,HB0.out.trans (HB2.out.mono HB0.out.size)⟩
 have d5:decide ((40:Int) < (vs.length:Int))=false:=decide_eq_false (by omega);have d5':decide (40 < vs.length)=false:=decide_eq_false h5;by_cases h6:400 < rs.length
 ·have d6:decide ((400:Int) < (rs.length:Int))=true:=decide_eq_true (by omega);have d6':decide (400 < rs.length)=true:=decide_eq_true h6;have HF:Hid (res=false):=hid (by rw[HRES.out,decide_eq_false (by omega:¬ rs.length≤400)];simp);clear h5 h6;go_enter Tryz.func14,Tryz.ntmps14;go_upto_region 1 with fail
  rw[← HW0.out.1,← HW0.out.2];go_wp2_with (go_at_call 31;refine HCH.out.mono ?_;rintro e w1 ⟨rfl,hb1⟩;refine Hid.out ?_);refine hid ?_;have HB1:=hid hb1;have HP1:=hid (HP.out.below hb1 HP.out.lt);clear hb1 x0 x1 x2 x3 x4;have x0:=HP1.out.cell_ 0 (.int .i64 st) rfl;have x1:=HP1.out.cell_ 1 (.int .i64 sym) rfl;have x2:=HP1.out.cell_ 2 (.slice hA hood.length hc) rfl;have x3:=HP1.out.cell_ 3 (.slice vA vs.length vc) rfl;have x4:=HP1.out.cell_ 4 (.slice rA rs.length rc) rfl;have HCQ:=hid (HCP.out w1 HB1.out);go_wp2_with (go_at_call 32;refine HCQ.out.mono ?_;rintro e w2 ⟨rfl,hb2⟩;refine Hid.out ?_);refine hid ?_;have HB2:=hid (HB1.out.trans (hb2.mono HB1.out.size));have HP2:=hid (HP.out.below HB2.out HP.out.lt);clear hb2 x0 x1 x2 x3 x4;have x0:=HP2.out.cell_ 0 (.int .i64 st) rfl;have x1:=HP2.out.cell_ 1 (.int .i64 sym) rfl;have x2:=HP2.out.cell_ 2 (.slice hA hood.length hc) rfl;have x3:=HP2.out.cell_ 3 (.slice vA vs.length vc) rfl;have x4:=HP2.out.cell_ 4 (.slice rA rs.length rc) rfl;go_wp2;go_ret;exact⟨ret_bool HF.out.symm,HB0.out.trans (HB2.out.mono HB0.out.size)⟩
 have d6:decide ((400:Int) < (rs.length:Int))=false:=decide_eq_false (by omega);have d6':decide (400 < rs.length)=false:=decide_eq_false h6;have HLN:Hid (vs.length≤40∧rs.length≤400):=hid ⟨by omega,by omega⟩;have HRES2:Hid (res=((vs.map Vh.zs).all (okVar st) && (rs.map Rh.rw_).all (okRow st vs.length hood.length))):=hid (by
  rw[HRES.out,decide_eq_true HST.out.1,decide_eq_true HST.out.2,HHB.out,HPM.out,decide_eq_true HLN.out.1,decide_eq_true HLN.out.2]
  simp)
 clear h5 h6;go_enter Tryz.func14,Tryz.ntmps14;go_upto_region 1 with fail
 rw[← HW0.out.1,← HW0.out.2];go_wp2_with (go_at_call 31;refine HCH.out.mono ?_;rintro e w1 ⟨rfl,hb1⟩;refine Hid.out ?_);refine hid ?_;have HB1:=hid hb1;have HP1:=hid (HP.out.below hb1 HP.out.lt);clear hb1 x0 x1 x2 x3 x4;have x0:=HP1.out.cell_ 0 (.int .i64 st) rfl;have x1:=HP1.out.cell_ 1 (.int .i64 sym) rfl;have x2:=HP1.out.cell_ 2 (.slice hA hood.length hc) rfl;have x3:=HP1.out.cell_ 3 (.slice vA vs.length vc) rfl;have x4:=HP1.out.cell_ 4 (.slice rA rs.length rc) rfl;have HCQ:=hid (HCP.out w1 HB1.out);go_wp2_with (go_at_call 32;refine HCQ.out.mono ?_;rintro e w2 ⟨rfl,hb2⟩;refine Hid.out ?_);refine hid ?_;have HB2:=hid (HB1.out.trans (hb2.mono HB1.out.size));have HP2:=hid (HP.out.below HB2.out HP.out.lt);clear hb2 x0 x1 x2 x3 x4;have x0:=HP2.out.cell_ 0 (.int .i64 st) rfl;have x1:=HP2.out.cell_ 1 (.int .i64 sym) rfl;have x2:=HP2.out.cell_ 2 (.slice hA hood.length hc) rfl;have x3:=HP2.out.cell_ 3 (.slice vA vs.length vc) rfl;have x4:=HP2.out.cell_ 4 (.slice rA rs.length rc) rfl;go_upto_region 4 with fail
 clear d1 d2 e1 e2 d5 d5' d6 d6' x0 x1 x2 x3 x4;have HT2:=hid (HT.out.ext HB2.out);have HBE:=hid (HB0.out.trans (HB2.out.mono HB0.out.size));clear HB1 HP1;go_loopw [3] (fun iv wr=>∃ i:Nat,i≤vs.length∧iv=.int .i64 i∧Hid (Below w2.heap.size w2 wr)∧Hid ((vs.map Vh.zs).all (okVar st)=((vs.drop i).map Vh.zs).all (okVar st))) (fun iv _=>vs.length - (intOf iv).toNat)
 case atStart=>exact⟨0,Nat.zero_le _,rfl,hid (Below.refl _ _),hid rfl⟩
 case round=>
  obtain⟨i,hi,rfl,HBW,HD⟩:=hrel;have HPW:=hid (HP2.out.below HBW.out HP2.out.lt);by_cases hil:i < vs.length
  ·obtain⟨vb,vo,ea,-,hca,hia⟩:=HT2.out.vars.at_ hil;have hAD:=HD.out.trans (all_dropM Vh.zs (okVar st) hil);obtain⟨xh,hxh⟩:∃ z,z=vs[i]:=⟨_,rfl⟩
   rw[← hxh] at hca hia hAD;obtain⟨xA,xc,l⟩:=xh;dsimp only at hca hia hAD ea;subst ea;have HAD:=hid hAD;have HCA:Hid (∀ W,Below w2.heap.size w2 W→W.cell? ⟨vb,vo+i,none⟩=some (.slice xA l.length xc)):=hid (fun W hW=>by
    obtain⟨b9,o9,e9,-,h9,-⟩:=(HT2.out.vars.ext hW).at_ hil;injection e9 with e9
    injection e9 with e8 e9
    subst e8 e9;rw[h9,← hxh])
   have HI:=hid hil;have hwi:wrap64 ((i:Int)+1)=(i:Int)+1:=by unfold wrap64;omega
   have HWI:=hid hwi;have hl9:l.length≤9223372036854775807:=hia.le;have HIA:=hid hia;have hcw:=HCA.out wr HBW.out;have x3:=HPW.out.cell_ 3 (.slice (some ⟨vb,vo,none⟩) vs.length vc) rfl;clear hAD hxh hia hi hwi hca;by_cases h0:l.length=0
   ·have d0:((l.length:Int) == 0)=true:=beq_iff_eq.2 (by omega);have HF:Hid (res=false):=hid (by rw[HRES2.out,HAD.out];unfold okVar;rw[decide_eq_false (by omega:¬ 0 < l.length)];rfl);clear h0;go_wp2;go_ret;exact⟨ret_bool HF.out.symm,HBE.out.trans (HBW.out.mono HBE.out.size)⟩
   ·have d0:((l.length:Int) == 0)=false:=beq_false_of_ne (by omega);have HOK:Hid (okVar st l=okVarS st none l):=hid (by unfold okVar;rw[decide_eq_true (by omega:0 < l.length)];rfl);clear h0;go_upto_region 9 with fail
    clear x3 hcw d0;go_loopw [4] (fun jv wr=>∃ j:Nat,j≤l.length∧jv=.int .i64 j∧Hid (Below w2.heap.size w2 wr)∧Hid (okVarS st none l=okVarS st (prevO l j) (l.drop j))) (fun jv _=>l.length - (intOf jv).toNat)
    case atStart=>exact⟨0,Nat.zero_le _,rfl,HBW,hid rfl⟩
    case round=>
     clear HBW HPW;obtain⟨j,hj,rfl,HBW,HS⟩:=hrel;have HPW:=hid (HP2.out.below HBW.out HP2.out.lt);have hcw:=HCA.out _ HBW.out;have x0:=HPW.out.cell_ 0 (.int .i64 st) rfl;have x3:=HPW.out.cell_ 3 (.slice (some ⟨vb,vo,none⟩) vs.length vc) rfl;have hil:=HI.out;by_cases hjl:j < l.length
     ·obtain⟨xb,xo,ex,-,hcj⟩:=(HIA.out.ext HBW.out).at_ hjl;subst ex;have HNO:=hid (fun h=>okVarS_no (st:=st) hjl h);have HYE:=hid (fun h1 h2 h3=>okVarS_yes (st:=st) hjl h1 h2 h3);obtain⟨s,hs⟩:∃ s,s=l[j]:=⟨_,rfl⟩
      rw[← hs] at hcj HNO HYE;have HJ:=hid hjl;have hwj:wrap64 ((j:Int)+1)=(j:Int)+1:=by unfold wrap64;omega
      have HWJ:=hid hwj;have HBAD:Hid (okVarS st (prevO l j) (l.drop j)=false→res=false):=hid (fun h=>by rw[HRES2.out,HAD.out,HOK.out,HS.out,h];rfl);clear hs hj hwj;by_cases e1:s < 0
      ·have q1:decide (s < 0)=true:=decide_eq_true e1;have HF:Hid (res=false):=hid (HBAD.out (HNO.out (.inl (by omega))));clear e1;go_wp2;go_quiet (fail)
       go_wp2;go_ret;exact⟨ret_bool HF.out.symm,HBE.out.trans ((below_drewN HBW.out _).mono HBE.out.size)⟩
      ·have q1:decide (s < 0)=false:=decide_eq_false e1;by_cases e2:st≤s
       ·have q2:decide (st≤s)=true:=decide_eq_true e2;have HF:Hid (res=false):=hid (HBAD.out (HNO.out (.inr (.inl (by omega)))));clear e1 e2;go_wp2;go_quiet (fail)
        go_wp2;go_ret;exact⟨ret_bool HF.out.symm,HBE.out.trans ((below_drewN HBW.out _).mono HBE.out.size)⟩
       ·have q2:decide (st≤s)=false:=decide_eq_false e2;have HE12:=hid (And.intro e1 e2);clear e1 e2;cases j with
        | zero=>
         rw[Nat.add_zero] at hcj;have HS2:Hid (okVarS st none l=okVarS st (prevO l (0+1)) (l.drop (0+1))):=hid (HS.out.trans (HYE.out (by have:=HE12.out.1;omega) (by have:=HE12.out.2;omega) rfl));go_wp2;go_quiet (fail)
         have HBN:=hid (below_drewN HBW.out nq);go_wp2;go_roundw
         case rel=>exact⟨0+1,HJ.out,(by first | rfl | (rw[HWJ.out];rfl)),HBN,HS2⟩
         case measure=>(try rw[HWJ.out]);exact meas_step HJ.out
        | succ j'=>
         have hj':j' < l.length:=Nat.lt_of_succ_lt hjl;obtain⟨xb',xo',ex',-,hcp⟩:=(HIA.out.ext HBW.out).at_ hj';obtain⟨rfl,rfl⟩:xb=xb'∧xo=xo':=by injection ex' with ex';injection ex' with h1 h2;exact⟨h1,h2⟩
         have hpv:prevO l (j'+1)=some l[j']:=List.getElem?_eq_getElem hj';obtain⟨a,ha⟩:∃ a,a=l[j']:=⟨_,rfl⟩
         rw[← ha] at hcp hpv;rw[hpv] at HNO HYE HS HBAD;have q3:decide ((0:Int) < ((j'+1:Nat):Int))=true:=decide_eq_true (by omega);have q3':decide ((0:Int) < (j':Int)+1)=true:=decide_eq_true (by omega);have hws:wrap64 (((j'+1:Nat):Int) - 1)=(j':Int):=by unfold wrap64;omega
         have hws':wrap64 ((j':Int)+1 - 1)=(j':Int):=by unfold wrap64;omega
         clear ex' ha hpv;by_cases e3:s≤a
         ·have q4:decide (s≤a)=true:=decide_eq_true e3;have HF:Hid (res=false):=hid (HBAD.out (HNO.out (.inr (.inr (decide_eq_false (by omega))))));clear e3;go_wp2;go_quiet (fail)
          go_wp2;go_ret;exact⟨ret_bool HF.out.symm,HBE.out.trans ((below_drewN HBW.out _).mono HBE.out.size)⟩
         ·have q4:decide (s≤a)=false:=decide_eq_false e3;have HS2:Hid (okVarS st none l=okVarS st (prevO l (j'+1+1)) (l.drop (j'+1+1))):=hid (HS.out.trans (HYE.out (by have:=HE12.out.1;omega) (by have:=HE12.out.2;omega) (decide_eq_true (by omega))));clear e3;go_wp2;go_quiet (fail)
          have HBN:=hid (below_drewN HBW.out nq);go_wp2;go_roundw
          case rel=>exact⟨j'+1+1,HJ.out,(by first | rfl | (rw[HWJ.out];rfl)),HBN,HS2⟩
          case measure=>(try rw[HWJ.out]);exact meas_step HJ.out
     ·obtain rfl:j=l.length:=Nat.le_antisymm hj (Nat.le_of_not_lt hjl);have HOV:Hid (okVar st l=true):=hid (by rw[HOK.out,HS.out,List.drop_length];cases prevO l l.length <;> rfl);have HD2:Hid ((vs.map Vh.zs).all (okVar st)=((vs.drop (i+1)).map Vh.zs).all (okVar st)):=hid (by rw[HAD.out,HOV.out];rfl);clear hj hjl;go_wp2;go_roundw
      case rel=>exact⟨i+1,HI.out,(by first | rfl | (rw[HWI.out];rfl)),HBW,HD2⟩
      case measure=>(try rw[HWI.out]);exact meas_step HI.out
  ·obtain rfl:i=vs.length:=Nat.le_antisymm hi (Nat.le_of_not_lt hil);have HRES3:Hid (res=(rs.map Rh.rw_).all (okRow st vs.length hood.length)):=hid (by rw[HRES2.out,HD.out,List.drop_length];rfl);have x3:=HPW.out.cell_ 3 (.slice vA vs.length vc) rfl;clear hi hil HD;go_upto_region 14 with fail
   clear x3 HPW;go_loopw [5] (fun iv wr=>∃ i:Nat,i≤rs.length∧iv=.int .i64 i∧Hid (Below w2.heap.size w2 wr)∧Hid ((rs.map Rh.rw_).all (okRow st vs.length hood.length)=((rs.drop i).map Rh.rw_).all (okRow st vs.length hood.length))) (fun iv _=>rs.length - (intOf iv).toNat)
   case atStart=>exact⟨0,Nat.zero_le _,rfl,HBW,hid rfl⟩
   case round=>
    clear HBW;obtain⟨i,hi,rfl,HBW,HD⟩:=hrel;have HPW:=hid (HP2.out.below HBW.out HP2.out.lt);by_cases hil:i < rs.length
    ·obtain⟨rb,ro,ea,-,hca,hda,hia⟩:=(HT2.out.rows.ext HBW.out).at_ hil;have hAD:=HD.out.trans (all_dropM Rh.rw_ (okRow st vs.length hood.length) hil);obtain⟨xh,hxh⟩:∃ z,z=rs[i]:=⟨_,rfl⟩
     rw[← hxh] at hca hda hia hAD;obtain⟨xA,xc,zs,out⟩:=xh;dsimp only at hca hda hia hAD ea;subst ea;have HAD:Hid ((rs.map Rh.rw_).all (okRow st vs.length hood.length)=(okRow st vs.length hood.length (zs,out) && ((rs.drop (i+1)).map Rh.rw_).all (okRow st vs.length hood.length))):=hid hAD;have HI:=hid hil;have hwi:wrap64 ((i:Int)+1)=(i:Int)+1:=by unfold wrap64;omega
     have HWI:=hid hwi;have hz9:zs.length≤9223372036854775807:=hia.le;obtain⟨wb,hwb⟩:∃ W,W=wr.alloc (.cells #[.slice xA zs.length xc,.int .i64 out] 43):=⟨_,rfl⟩
     have hbb:Below wr.heap.size wr wb:=by rw[hwb];exact below_new _ _
     obtain⟨gR,hgR⟩:∃ g,g=wr.heap.size:=⟨_,rfl⟩
     have HRB:Hid (Blk wb gR 43 #[.slice xA zs.length xc,.int .i64 out]):=hid (by rw[hgR,hwb];exact Blk.new _ _ _);have HBB:=hid (HBW.out.trans (hbb.mono HBW.out.size));have HIA:=hid (hia.ext hbb);have HWB:=hid (And.intro hwb hgR);have HPB:=hid (HP2.out.below HBB.out HP2.out.lt);have HBF:=hid (HBE.out.trans (HBB.out.mono HBE.out.size));have HEL:Hid (∀ n W,Calls Tryz.prog 33 #[.agg #[.int .i64 st,.int .i64 sym,.slice hA hood.length hc,.slice vA vs.length vc,.slice (some ⟨rb,ro,none⟩) rs.length rc],.int .i64 n] W fun e w'=>e=.returned (.bool (elB st vs.length n))∧Below W.heap.size W w'):=hid (fun n W=>rvalue11_any st sym hA hood.length hc vA vs.length vc (some ⟨rb,ro,none⟩) rs.length rc n W (by have:=HLN.out.1;omega));have HBAD:Hid (okRow st vs.length hood.length (zs,out)=false→res=false):=hid (fun h=>by rw[HRES3.out,HAD.out,h];rfl);have x4:=HPW.out.cell_ 4 (.slice (some ⟨rb,ro,none⟩) rs.length rc) rfl;clear hAD hxh hia hi hwi hwb hgR hbb;go_upto_region 17 with fail
     rw[← HWB.out.1,← HWB.out.2];clear hca hda x4;have r0:=HRB.out.cell_ 0 (.slice xA zs.length xc) rfl;have r1:=HRB.out.cell_ 1 (.int .i64 out) rfl;have x0:=HPB.out.cell_ 0 (.int .i64 st) rfl;have x1:=HPB.out.cell_ 1 (.int .i64 sym) rfl;have x2:=HPB.out.cell_ 2 (.slice hA hood.length hc) rfl;have x3:=HPB.out.cell_ 3 (.slice vA vs.length vc) rfl;have x4:=HPB.out.cell_ 4 (.slice (some ⟨rb,ro,none⟩) rs.length rc) rfl;by_cases e1:zs.length=hood.length
     ·have q1:((zs.length:Int) != (hood.length:Int))=false:=by simp[e1]
      have q1':(zs.length != hood.length)=false:=by simp[e1]
      have HE1:=hid e1;clear e1;have HEO:=hid (HEL.out out wb);cases e2:elB st vs.length out with
      | false=>
       have HF:Hid (res=false):=hid (HBAD.out (by unfold okRow;dsimp only;rw[e2];simp));rw[e2] at HEO;clear e2;go_wp2_with (go_at_call 33;refine HEO.out.mono ?_;rintro e w5 ⟨rfl,hb5⟩;refine Hid.out ?_);refine hid ?_;have HB5:=hid hb5;have HP5:=hid (HPB.out.below hb5 HPB.out.lt);have HR5:=hid (HRB.out.below hb5 HRB.out.lt);have HI5:=hid (HIA.out.ext hb5);clear hb5 r0 r1 x0 x1 x2 x3 x4;have r0:=HR5.out.cell_ 0 (.slice xA zs.length xc) rfl;have r1:=HR5.out.cell_ 1 (.int .i64 out) rfl;go_wp2;go_ret;exact⟨ret_bool HF.out.symm,HBF.out.trans (HB5.out.mono HBF.out.size)⟩
      | true=>
       have HE2:=hid e2;rw[e2] at HEO;clear e2;by_cases e3:out < 0
       ·have q3:decide (out < 0)=true:=decide_eq_true e3;by_cases e4:out ∈ zs
        ·have HRO:Hid (okRow st vs.length hood.length (zs,out)=zs.all (elB st vs.length)):=hid (by unfold okRow;dsimp only;rw[decide_eq_true HE1.out,HE2.out,decide_eq_true e4];simp);have HM:=hid e4;clear e3 e4;go_wp2_with (go_at_call 33;refine HEO.out.mono ?_;rintro e w5 ⟨rfl,hb5⟩;refine Hid.out ?_);refine hid ?_;have HB5:=hid hb5;have HP5:=hid (HPB.out.below hb5 HPB.out.lt);have HR5:=hid (HRB.out.below hb5 HRB.out.lt);have HI5:=hid (HIA.out.ext hb5);clear hb5 r0 r1 x0 x1 x2 x3 x4;have r0:=HR5.out.cell_ 0 (.slice xA zs.length xc) rfl;have r1:=HR5.out.cell_ 1 (.int .i64 out) rfl;have HCN:Hid (Calls Tryz.prog 34 #[.slice xA zs.length xc,.int .i64 out] w5 fun e w'=>e=.returned (.bool (decide (out ∈ zs)))∧w5=w'):=hid ((has_any xA zs xc out w5 HI5.out).mono fun e w' h=>⟨h.1,h.2.symm⟩);rw[decide_eq_true HM.out] at HCN;go_wp2_with (go_at_call 34;refine HCN.out.mono ?_;rintro e w6 ⟨rfl,rfl⟩;refine Hid.out ?_);refine hid ?_;go_upto_region 20 with fail
         clear r0 r1;go_loopw [7] (fun jv wr=>∃ j:Nat,j≤zs.length∧jv=.int .i64 j∧Hid (Below wb.heap.size wb wr)∧Hid (zs.all (elB st vs.length)=(zs.drop j).all (elB st vs.length))) (fun jv _=>zs.length - (intOf jv).toNat)
         case atStart=>exact⟨0,Nat.zero_le _,rfl,HB5,hid rfl⟩
         case round=>
          obtain⟨j,hj,rfl,HBJ,HS⟩:=hrel;have HPJ:=hid (HPB.out.below HBJ.out HPB.out.lt);have HRJ:=hid (HRB.out.below HBJ.out HRB.out.lt);have r0:=HRJ.out.cell_ 0 (.slice xA zs.length xc) rfl;by_cases hjl:j < zs.length
          ·obtain⟨xb,xo,ex,-,hcj⟩:=(HIA.out.ext HBJ.out).at_ hjl;subst ex;have HAL:=hid (HS.out.trans (all_drop0 (elB st vs.length) hjl));obtain⟨n,hn⟩:∃ s,s=zs[j]:=⟨_,rfl⟩
           rw[← hn] at hcj HAL;have HJ:=hid hjl;have hwj:wrap64 ((j:Int)+1)=(j:Int)+1:=by unfold wrap64;omega
           have HWJ:=hid hwj;obtain⟨eb,heb⟩:∃ b,b=elB st vs.length n:=⟨_,rfl⟩
           have HEN:Hid (∀ d os,Calls Tryz.prog 33 #[.agg #[.int .i64 st,.int .i64 sym,.slice hA hood.length hc,.slice vA vs.length vc,.slice (some ⟨rb,ro,none⟩) rs.length rc],.int .i64 n] (grow (redrawn wr d) os) fun e w''=>e=.returned (.bool eb)∧∃ p:Regrown,w''=grow (redrawn wr p.1) p.2):=hid (fun d os=>by rw[heb];exact Calls.regrown_of (HEL.out n _));have HEB:=hid heb;clear hn hj hwj heb;go_upto_region 22 with fail
           have j0:=cell_regrown r0;have j1:=cell_regrown hcj;have k0:=cell_regrown (HPJ.out.cell_ 0 (.int .i64 st) rfl);have k1:=cell_regrown (HPJ.out.cell_ 1 (.int .i64 sym) rfl);have k2:=cell_regrown (HPJ.out.cell_ 2 (.slice hA hood.length hc) rfl);have k3:=cell_regrown (HPJ.out.cell_ 3 (.slice vA vs.length vc) rfl);have k4:=cell_regrown (HPJ.out.cell_ 4 (.slice (some ⟨rb,ro,none⟩) rs.length rc) rfl);refine wp_region_quiet_below (by kernel_rfl) (by kernel_rfl) ?_;repeat (go_big_quiet_step (first | with_reducible exact HEN.out _ _))
           refine wpQuiet_nil ?_;intro _ hw';obtain⟨⟨dq,osq⟩,hw''⟩:=hw';subst hw'';have HBN:=hid (HBJ.out.trans ((below_regrown wr dq osq).mono HBJ.out.size));clear j0 j1 k0 k1 k2 k3 k4 r0 hcj;cases eb with
           | false=>
            have HF:Hid (res=false):=hid (HBAD.out (by rw[HRO.out,HAL.out,← HEB.out];rfl));go_wp2;go_ret;exact⟨ret_bool HF.out.symm,HBF.out.trans (HBN.out.mono HBF.out.size)⟩
           | true=>
            have HS2:Hid (zs.all (elB st vs.length)=(zs.drop (j+1)).all (elB st vs.length)):=hid (by rw[HAL.out,← HEB.out];rfl);go_wp2;go_roundw
            case rel=>exact⟨j+1,HJ.out,(by first | rfl | (rw[HWJ.out];rfl)),HBN,HS2⟩
            case measure=>(try rw[HWJ.out]);exact meas_step HJ.out
          ·obtain rfl:j=zs.length:=Nat.le_antisymm hj (Nat.le_of_not_lt hjl);have HOV:Hid (okRow st vs.length hood.length (zs,out)=true):=hid (by rw[HRO.out,HS.out,List.drop_length];rfl);have HD2:Hid ((rs.map Rh.rw_).all (okRow st vs.length hood.length)=((rs.drop (i+1)).map Rh.rw_).all (okRow st vs.length hood.length)):=hid (by rw[HAD.out,HOV.out];rfl);have HBZ:=hid (HBB.out.trans (HBJ.out.mono HBB.out.size));clear hj hjl;go_wp2;go_roundw
           case rel=>exact⟨i+1,HI.out,(by first | rfl | (rw[HWI.out];rfl)),HBZ,HD2⟩
           case measure=>(try rw[HWI.out]);exact meas_step HI.out
        ·have HF:Hid (res=false):=hid (HBAD.out (by unfold okRow;dsimp only;rw[decide_eq_false e4,decide_eq_false (by omega:¬ 0≤out)];simp));have HM:=hid e4;clear e3 e4;go_wp2_with (go_at_call 33;refine HEO.out.mono ?_;rintro e w5 ⟨rfl,hb5⟩;refine Hid.out ?_);refine hid ?_;have HB5:=hid hb5;have HP5:=hid (HPB.out.below hb5 HPB.out.lt);have HR5:=hid (HRB.out.below hb5 HRB.out.lt);have HI5:=hid (HIA.out.ext hb5);clear hb5 r0 r1 x0 x1 x2 x3 x4;have r0:=HR5.out.cell_ 0 (.slice xA zs.length xc) rfl;have r1:=HR5.out.cell_ 1 (.int .i64 out) rfl;have HCN:Hid (Calls Tryz.prog 34 #[.slice xA zs.length xc,.int .i64 out] w5 fun e w'=>e=.returned (.bool (decide (out ∈ zs)))∧w5=w'):=hid ((has_any xA zs xc out w5 HI5.out).mono fun e w' h=>⟨h.1,h.2.symm⟩);rw[decide_eq_false HM.out] at HCN;go_wp2_with (go_at_call 34;refine HCN.out.mono ?_;rintro e w6 ⟨rfl,rfl⟩;refine Hid.out ?_);refine hid ?_;go_wp2;go_ret;exact⟨ret_bool HF.out.symm,HBF.out.trans (HB5.out.mono HBF.out.size)⟩
       ·have q3:decide (out < 0)=false:=decide_eq_false e3;have HRO:Hid (okRow st vs.length hood.length (zs,out)=zs.all (elB st vs.length)):=hid (by unfold okRow;dsimp only;rw[decide_eq_true HE1.out,HE2.out,decide_eq_true (by omega:0≤out)];simp);clear e3;go_wp2_with (go_at_call 33;refine HEO.out.mono ?_;rintro e w5 ⟨rfl,hb5⟩;refine Hid.out ?_);refine hid ?_;have HB5:=hid hb5;have HP5:=hid (HPB.out.below hb5 HPB.out.lt);have HR5:=hid (HRB.out.below hb5 HRB.out.lt);have HI5:=hid (HIA.out.ext hb5);clear hb5 r0 r1 x0 x1 x2 x3 x4;have r0:=HR5.out.cell_ 0 (.slice xA zs.length xc) rfl;have r1:=HR5.out.cell_ 1 (.int .i64 out) rfl;go_upto_region 20 with fail
        clear r0 r1;go_loopw [7] (fun jv wr=>∃ j:Nat,j≤zs.length∧jv=.int .i64 j∧Hid (Below wb.heap.size wb wr)∧Hid (zs.all (elB st vs.length)=(zs.drop j).all (elB st vs.length))) (fun jv _=>zs.length - (intOf jv).toNat)
        case atStart=>exact⟨0,Nat.zero_le _,rfl,HB5,hid rfl⟩
        case round=>
         obtain⟨j,hj,rfl,HBJ,HS⟩:=hrel;have HPJ:=hid (HPB.out.below HBJ.out HPB.out.lt);have HRJ:=hid (HRB.out.below HBJ.out HRB.out.lt);have r0:=HRJ.out.cell_ 0 (.slice xA zs.length xc) rfl;by_cases hjl:j < zs.length
         ·obtain⟨xb,xo,ex,-,hcj⟩:=(HIA.out.ext HBJ.out).at_ hjl;subst ex;have HAL:=hid (HS.out.trans (all_drop0 (elB st vs.length) hjl));obtain⟨n,hn⟩:∃ s,s=zs[j]:=⟨_,rfl⟩
          rw[← hn] at hcj HAL;have HJ:=hid hjl;have hwj:wrap64 ((j:Int)+1)=(j:Int)+1:=by unfold wrap64;omega
          have HWJ:=hid hwj;obtain⟨eb,heb⟩:∃ b,b=elB st vs.length n:=⟨_,rfl⟩
          have HEN:Hid (∀ d os,Calls Tryz.prog 33 #[.agg #[.int .i64 st,.int .i64 sym,.slice hA hood.length hc,.slice vA vs.length vc,.slice (some ⟨rb,ro,none⟩) rs.length rc],.int .i64 n] (grow (redrawn wr d) os) fun e w''=>e=.returned (.bool eb)∧∃ p:Regrown,w''=grow (redrawn wr p.1) p.2):=hid (fun d os=>by rw[heb];exact Calls.regrown_of (HEL.out n _));have HEB:=hid heb;clear hn hj hwj heb;go_upto_region 22 with fail
          have j0:=cell_regrown r0;have j1:=cell_regrown hcj;have k0:=cell_regrown (HPJ.out.cell_ 0 (.int .i64 st) rfl);have k1:=cell_regrown (HPJ.out.cell_ 1 (.int .i64 sym) rfl);have k2:=cell_regrown (HPJ.out.cell_ 2 (.slice hA hood.length hc) rfl);have k3:=cell_regrown (HPJ.out.cell_ 3 (.slice vA vs.length vc) rfl);have k4:=cell_regrown (HPJ.out.cell_ 4 (.slice (some ⟨rb,ro,none⟩) rs.length rc) rfl);refine wp_region_quiet_below (by kernel_rfl) (by kernel_rfl) ?_;repeat (go_big_quiet_step (first | with_reducible exact HEN.out _ _))
          refine wpQuiet_nil ?_;intro _ hw';obtain⟨⟨dq,osq⟩,hw''⟩:=hw';subst hw'';have HBN:=hid (HBJ.out.trans ((below_regrown wr dq osq).mono HBJ.out.size));clear j0 j1 k0 k1 k2 k3 k4 r0 hcj;cases eb with
          | false=>
           have HF:Hid (res=false):=hid (HBAD.out (by rw[HRO.out,HAL.out,← HEB.out];rfl));go_wp2;go_ret;exact⟨ret_bool HF.out.symm,HBF.out.trans (HBN.out.mono HBF.out.size)⟩
          | true=>
           have HS2:Hid (zs.all (elB st vs.length)=(zs.drop (j+1)).all (elB st vs.length)):=hid (by rw[HAL.out,← HEB.out];rfl);go_wp2;go_roundw
           case rel=>exact⟨j+1,HJ.out,(by first | rfl | (rw[HWJ.out];rfl)),HBN,HS2⟩
           case measure=>(try rw[HWJ.out]);exact meas_step HJ.out
         ·obtain rfl:j=zs.length:=Nat.le_antisymm hj (Nat.le_of_not_lt hjl);have HOV:Hid (okRow st vs.length hood.length (zs,out)=true):=hid (by rw[HRO.out,HS.out,List.drop_length];rfl);have HD2:Hid ((rs.map Rh.rw_).all (okRow st vs.length hood.length)=((rs.drop (i+1)).map Rh.rw_).all (okRow st vs.length hood.length)):=hid (by rw[HAD.out,HOV.out];rfl);have HBZ:=hid (HBB.out.trans (HBJ.out.mono HBB.out.size));clear hj hjl;go_wp2;go_roundw
          case rel=>exact⟨i+1,HI.out,(by first | rfl | (rw[HWI.out];rfl)),HBZ,HD2⟩
          case measure=>(try rw[HWI.out]);exact meas_step HI.out
     ·have q1:((zs.length:Int) != (hood.length:Int))=true:=by simp;omega
      have q1':(zs.length != hood.length)=true:=by simp[e1]
      have HF:Hid (res=false):=hid (HBAD.out (by unfold okRow;dsimp only;rw[decide_eq_false e1];simp));clear e1;go_wp2;go_ret;exact⟨ret_bool HF.out.symm,HBF.out⟩
    ·obtain rfl:i=rs.length:=Nat.le_antisymm hi (Nat.le_of_not_lt hil);have HF:Hid (res=true):=hid (by rw[HRES3.out,HD.out,List.drop_length];rfl);have x4:=HPW.out.cell_ 4 (.slice rA rs.length rc) rfl;clear hi hil;go_wp2;go_ret;exact⟨ret_bool HF.out.symm,HBE.out.trans (HBW.out.mono HBE.out.size)⟩
end Go.Proofs.YtlegfdllipkggaaGreatDoor
namespace Go.Proofs.YtlegfdllipkggaaGreatDoor
open Lib(hid)
open Go.RowKit Go.Sort Go.Maps
set_option maxRecDepth 100000
set_option linter.unusedVariables false
set_option linter.unusedSimpArgs false
set_option maxHeartbeats 800000 in
theorem ridx11_any (A:Option Addr)(xs:List (Int × Int))(c:Nat)(a b:Int)(w:World)(ha:Pts w A xs) :
  Calls Tryz.prog 108 #[.slice A xs.length c,.agg #[.int .i64 a,.int .i64 b]] w fun e w'=>e=.returned (.int .i64 (idxF (a,b) 0 xs))∧Below w.heap.size w w':=by
 have hn:=ha.le;obtain⟨w0,hw0⟩:∃ w0,w0=w.alloc (.cells #[.int .i64 a,.int .i64 b] 56):=⟨_,rfl⟩
 have hb0:Below w.heap.size w w0:=by rw[hw0];exact below_new _ _
 have q0:Blk w0 w.heap.size 56 #[.int .i64 a,.int .i64 b]:=by rw[hw0];exact Blk.new _ _ _
 have d0:=q0.cell_ 0 (.int .i64 a) rfl;have d1:=q0.cell_ 1 (.int .i64 b) rfl;have hP:=ha.ext hb0;have HB0:=hid hb0;have HW0:=hid hw0;clear hb0 q0 hw0 ha;go_enter Tryz.func108,Tryz.ntmps108;go_upto_region 1 with fail
 rw[← HW0.out];go_wp2;go_loopw [5] (fun i wr=>∃ k q:Nat,k≤xs.length∧i=.int .i64 k∧wr=w0.drewN q∧Hid (idxF (a,b) 0 xs=idxF (a,b) k (xs.drop k))) (fun i _=>xs.length - (intOf i).toNat)
 case atStart=>exact⟨0,0,Nat.zero_le _,rfl,rfl,hid rfl⟩
 case round=>
  obtain⟨k,q,hk,rfl,rfl,HT⟩:=hrel;by_cases hlt:k < xs.length
  ·obtain⟨b1,o1,rfl,-,hc,hc'⟩:=hP.at_ hlt;have HD:=hid (HT.out.trans (idxF_step (p:=(a,b)) hlt));clear HT;have hst:=Tryz.stood_pt;have heg:=Tryz.guard_pt;have hnq:=eql_pt;go_wp2;go_quiet (fail)
   cases hpe:ptEq xs[k].1 xs[k].2 a b with
   | true=>
    have he:xs[k]=(a,b):=by
     unfold ptEq at hpe;simp at hpe;exact Prod.ext hpe.1 hpe.2
    have HN:=hid (HD.out.trans (if_pos he));clear HD he;go_wp2;go_ret;exact⟨ret_int HN.out.symm,HB0.out.trans ((below_drewN (below_drewN (Below.refl _ _) _) _).mono HB0.out.size)⟩
   | false=>
    have he:¬ xs[k]=(a,b):=by
     unfold ptEq at hpe;intro e;rw[e] at hpe;simp at hpe
    have HN:=hid (HD.out.trans (if_neg he));clear HD he;go_wp2;go_roundw
    case rel=>exact⟨k+1,_,by omega,by go_num,rfl,HN⟩
    case measure=>simp[intOf];omega
  ·obtain rfl:k=xs.length:=by omega
   have hno:idxF (a,b) 0 xs = -1:=by rw[HT.out,List.drop_length];rfl
   have HN:=hid hno;clear hno HT;go_wp2;go_ret;exact⟨ret_int HN.out.symm,HB0.out.trans ((below_drewN (Below.refl _ _) _).mono HB0.out.size)⟩
set_option maxHeartbeats 16000000 in
theorem rturned_any (hA:Option Addr)(hc:Nat)(vA:Option Addr)(vc:Nat)(rA:Option Addr)(rc:Nat)(t:TabH)(zA:Option Addr)(zc:Nat)(ins:List Int)(k:Nat)(w:World)(hp:Pts w hA t.hood)(hz:Ints w zA ins)(hl:ins.length=t.hood.length)(hh:hoodB t.hood=true) :
  Calls Tryz.prog 100 #[tabV hA hc vA vc rA rc t,.slice zA ins.length zc,.int .i64 (k:Int)] w fun e w'=>∃ v,e=.returned v∧OwnIA w' w.heap.size v (rturnTo t.hood (k:Int) ins ins.length)∧Below w.heap.size w w':=by
 obtain⟨st,sym,hood,vs,rs⟩:=t;unfold tabV;dsimp only at hp hl hh ⊢;obtain⟨w0,hw0⟩:∃ w0,w0=w.alloc (.cells #[.int .i64 st,.int .i64 sym,.slice hA hood.length hc,.slice vA vs.length vc,.slice rA rs.length rc] 26):=⟨_,rfl⟩
 have hb0:Below w.heap.size w w0:=by rw[hw0];exact below_new _ _
 have p0:Blk w0 w.heap.size 26 #[.int .i64 st,.int .i64 sym,.slice hA hood.length hc,.slice vA vs.length vc,.slice rA rs.length rc]:=by rw[hw0];exact Blk.new _ _ _
 obtain⟨gT,hgT⟩:∃ g,g=w.heap.size:=⟨_,rfl⟩
 rw[← hgT] at p0;have HB0:=hid hb0;have HP:=hid p0;have HW0:=hid (And.intro hw0 hgT);have HPT:=hid (hp.ext hb0);have HZ:=hid (hz.ext hb0);have HRN:=hid (hoodB_rng hh);have hln:=hoodB_len hh;have hil:ins.length≤25:=by omega
 have HLN:=hid (And.intro hl hil);have hh9:hood.length≤9223372036854775807:=hp.le;have hz9:ins.length≤9223372036854775807:=hz.le;obtain⟨i0,hi0,hz0,hz1,hz2⟩:=info_parts Tryz.infoInt;have hmw:w0.heap.size≤w0.heap.size:=Nat.le_refl _;clear hb0 p0 hw0 hgT hp hz hh hln hl;go_enter Tryz.func100,Tryz.ntmps100;go_upto_region 1 with fail
 rw[← HW0.out.1,← HW0.out.2];go_wp2_with (at_make;refine wpList_make_full _ rfl _ _ 38 rfl w0.heap.size 3 i0 _ 1 Tryz.underlying38 hi0 hz0 hz1 .i64 .i64 ins.length ins.length ins.length rfl rfl rfl rfl (by rw[hz2];omega) (by unfold maxLen;omega) hmw ?_);intro w1 ho1 hg1;have hb1:Below w0.heap.size w0 w1:=(Below.refl _ w0).grown hg1 (Nat.le_refl _) (by intro k hk;cases hk);have hr1:OwnIA w1 w0.heap.size (.slice (some ⟨w0.heap.size,0,none⟩) ins.length ins.length) (rturnTo hood (k:Int) ins 0):=by
  unfold OwnIA OwnI;rw[rturnTo,List.length_replicate,List.map_replicate];rw[toList_madeCells_one] at ho1;exact ho1
 obtain⟨gO,hgO⟩:∃ g,g=w0.heap.size:=⟨_,rfl⟩
 have HGL:Hid (w0.heap.size≤gO):=hid (by rw[hgO];exact Nat.le_refl _);have HR1:Hid (OwnIA w1 w0.heap.size (.slice (some ⟨gO,0,none⟩) ins.length ins.length) (rturnTo hood (k:Int) ins 0)):=hid (by rw[hgO];exact hr1);rw[← hgO];have HB1:=hid hb1;clear ho1 hg1 hb1 hr1 hgO hi0 hz0 hz1 hz2 hmw hil;go_upto_region 3 with fail
 go_loopw [8] (fun iv wr=>∃ i:Nat,i≤ins.length∧iv=.int .i64 i∧Hid (OwnIA wr w0.heap.size (.slice (some ⟨gO,0,none⟩) ins.length ins.length) (rturnTo hood (k:Int) ins i))∧Hid (Below w0.heap.size w0 wr)) (fun iv _=>ins.length - (intOf iv).toNat)
 case atStart=>exact⟨0,Nat.zero_le _,rfl,HR1,HB1⟩
 case round=>
  obtain⟨i,hi,rfl,HO,HBW⟩:=hrel;by_cases hil:i < ins.length
  ·have hih:i < hood.length:=by have:=HLN.out.1;omega
   have hwi:wrap64 ((i:Int)+1)=(i:Int)+1:=by have:=HLN.out.2;unfold wrap64;omega
   have HWI:=hid hwi;obtain⟨hb,ho,ea,-,hc0,hc1⟩:=(HPT.out.ext HBW.out).at_ hih;have hrr:=HRN.out hood[i] (List.getElem_mem hih);have hg:hood.getD i (0,0)=hood[i]:=by rw[List.getD_eq_getElem?_getD,List.getElem?_eq_getElem hih];rfl
   obtain⟨z,hz⟩:∃ z,z=hood[i]:=⟨_,rfl⟩
   rw[← hz] at hc0 hc1 hrr hg;obtain⟨x,y⟩:=z;dsimp only at hc0 hc1 hrr;obtain⟨zb,zo,ez,-,hcz⟩:=(HZ.out.ext HBW.out).at_ hil;have hge:ins.getD i 0=ins[i]:=by rw[List.getD_eq_getElem?_getD,List.getElem?_eq_getElem hil];rfl
   obtain⟨e,hee⟩:∃ e,e=ins[i]:=⟨_,rfl⟩
   rw[← hee] at hcz hge;subst ea ez;obtain⟨q,hq⟩:∃ q,q=symP (k:Int) (x,y):=⟨_,rfl⟩
   obtain⟨j,hj⟩:∃ j,j=idxF q 0 hood:=⟨_,rfl⟩
   have hstep:rturnTo hood (k:Int) ins (i+1)=if 0≤j then (rturnTo hood (k:Int) ins i).set j.toNat e else rturnTo hood (k:Int) ins i:=by
    rw[rturnTo,hg,← hq,← hj,hge]
   have hjl:j < 0∨(0≤j∧j.toNat < hood.length):=by
    have:=idxF_lt15 (p:=q) hood 0;rw[← hj] at this;simpa using this
   have HCA:Hid (∀ d os,Calls Tryz.prog 77 #[.int .i64 (k:Int),.agg #[.int .i64 x,.int .i64 y]] (grow (redrawn wr d) os) fun e w''=>e=.returned (.agg #[.int .i64 q.1,.int .i64 q.2])∧∃ p:Regrown,w''=grow (redrawn wr p.1) p.2):=hid (fun d os=>by rw[hq];exact Calls.regrown_of (rapply_any (k:Int) x y _ ⟨by omega,by omega⟩ ⟨by omega,by omega⟩));have HCI:Hid (∀ d os,Calls Tryz.prog 108 #[.slice (some ⟨hb,ho,none⟩) hood.length hc,.agg #[.int .i64 q.1,.int .i64 q.2]] (grow (redrawn wr d) os) fun e w''=>e=.returned (.int .i64 j)∧∃ p:Regrown,w''=grow (redrawn wr p.1) p.2):=hid (fun d os=>by rw[hj];exact Calls.regrown_of (ridx11_any (some ⟨hb,ho,none⟩) hood hc q.1 q.2 _ ((HPT.out.ext HBW.out).ext (below_regrown wr d os))));have HJ:=hid (And.intro hstep hjl);have HI:=hid hil;obtain⟨q1,q2⟩:=q;dsimp only at HCA HCI;have j0:=cell_regrown hc0;have j1:=cell_regrown hc1;have j2:=cell_regrown ((HP.out.below HBW.out HP.out.lt).cell_ 2 (.slice (some ⟨hb,ho,none⟩) hood.length hc) rfl);clear hi hwi hz hrr hg hge hee hq hj hstep hjl hc0 hc1;go_upto_region 5 with fail
   refine wp_region_quiet_below (by kernel_rfl) (by kernel_rfl) ?_;repeat (go_big_quiet_step (first | with_reducible exact HCA.out _ _ | with_reducible exact HCI.out _ _))
   refine wpQuiet_nil ?_;intro _ hw';obtain⟨⟨dq,osq⟩,hw''⟩:=hw';subst hw'';have HBN:=hid (HBW.out.trans ((below_regrown wr dq osq).mono HBW.out.size));have HON:=hid (HO.out.ext (below_regrown wr dq osq));have hcz2:=(cell_regrown hcz) dq osq;obtain⟨w5,hw5⟩:∃ W,W=grow (redrawn wr dq) osq:=⟨_,rfl⟩
   rw[← hw5] at HBN HON hcz2 ⊢;clear hw5 j0 j1 j2 hcz;by_cases hj0:0≤j
   ·have d0:decide (0≤j)=true:=decide_eq_true hj0;have hjn:j.toNat < ins.length:=by
     rcases HJ.out.2 with h | h
     ·omega
     ·have:=HLN.out.1;omega
    obtain⟨jn,rfl⟩:∃ n:Nat,j=(n:Int):=⟨j.toNat,by omega⟩
    rw[Int.toNat_natCast] at hjn;obtain⟨cb,fb⟩:=HON.out.cellk (k:=jn) (by rw[rturn_len];exact hjn);have hset:=HON.out.set (by rw[rturn_len]) jn e;have hst2:rturnTo hood (k:Int) ins (i+1)=(rturnTo hood (k:Int) ins i).set jn e:=by rw[HJ.out.1,if_pos hj0,Int.toNat_natCast]
    rw[← hst2] at hset;have HO2:=hid hset;have HB2:=hid (HBN.out.setCell (p:=⟨gO,jn,none⟩) HGL.out (.int .i64 e));clear hj0 hset hst2;go_wp2;go_roundw
    case rel=>exact⟨i+1,HI.out,(by first | rfl | (rw[HWI.out];rfl)),HO2,HB2⟩
    case measure=>(try rw[HWI.out]);exact meas_step HI.out
   ·have d0:decide (0≤j)=false:=decide_eq_false hj0;have HO2:Hid (OwnIA w5 w0.heap.size (.slice (some ⟨gO,0,none⟩) ins.length ins.length) (rturnTo hood (k:Int) ins (i+1))):=hid (by rw[HJ.out.1,if_neg hj0];exact HON.out);clear hj0;go_wp2;go_roundw
    case rel=>exact⟨i+1,HI.out,(by first | rfl | (rw[HWI.out];rfl)),HO2,HBN⟩
    case measure=>(try rw[HWI.out]);exact meas_step HI.out
  ·obtain rfl:i=ins.length:=Nat.le_antisymm hi (Nat.le_of_not_lt hil);have HN0:Hid (w.heap.size≤w0.heap.size):=hid HB0.out.size;clear hi hil;go_wp2;go_ret;exact⟨_,rfl,OwnI.down HO.out HN0.out,HB0.out.trans (HBW.out.mono HB0.out.size)⟩
set_option maxHeartbeats 8000000 in
theorem rfits_any (hA:Option Addr)(hc:Nat)(vA:Option Addr)(vc:Nat)(rA:Option Addr)(rc:Nat)(t:TabH)(e s:Int)(bA:Option Addr)(bc:Nat)(bs:List Int)(w:World)(hV:Vrs w vA t.vs)(h40:t.vs.length≤40)(hb:Ints w bA bs)(hbl:bs.length=t.vs.length)(he:ElOk t.vs.length e) :
  Calls Tryz.prog 102 #[tabV hA hc vA vc rA rc t,.int .i64 e,.int .i64 s,.slice bA bs.length bc] w fun en w'=>en=.returned (.bool (rfitsP (t.vs.map Vh.zs) bs e s))∧Below w.heap.size w w':=by
 obtain⟨st,sym,hood,vs,rs⟩:=t;unfold tabV;dsimp only at hV h40 he hbl ⊢;obtain⟨w0,hw0⟩:∃ w0,w0=w.alloc (.cells #[.int .i64 st,.int .i64 sym,.slice hA hood.length hc,.slice vA vs.length vc,.slice rA rs.length rc] 26):=⟨_,rfl⟩
 have hb0:Below w.heap.size w w0:=by rw[hw0];exact below_new _ _
 have p0:Blk w0 w.heap.size 26 #[.int .i64 st,.int .i64 sym,.slice hA hood.length hc,.slice vA vs.length vc,.slice rA rs.length rc]:=by rw[hw0];exact Blk.new _ _ _
 obtain⟨gT,hgT⟩:∃ g,g=w.heap.size:=⟨_,rfl⟩
 rw[← hgT] at p0;have HB0:=hid hb0;have HW0:=hid (And.intro hw0 hgT);have hV0:=hV.ext hb0;have hbb:=hb.ext hb0;obtain⟨vars,hvars⟩:∃ v,v=vs.map Vh.zs:=⟨_,rfl⟩
 rw[← hvars];obtain⟨res,hres⟩:∃ r,r=rfitsP vars bs e s:=⟨_,rfl⟩
 rw[← hres];have hv9:vs.length≤9223372036854775807:=hV.le;have hb9:bs.length≤9223372036854775807:=hb.le;clear hb0 hw0 hgT hV hb;by_cases h0:0≤e
 ·have d0:decide (0≤e)=true:=decide_eq_true h0;have HF:Hid (res=(e == s)):=hid (by rw[hres];exact if_pos h0);clear h0 hV0 hbb p0 hres hvars he;go_enter Tryz.func102,Tryz.ntmps102;go_upto_region 1 with fail
  rw[← HW0.out.1,← HW0.out.2];go_wp2;go_ret;exact⟨ret_bool HF.out.symm,HB0.out⟩
 ·have d0:decide (0≤e)=false:=decide_eq_false h0;have hvl:=he.1 (by omega);obtain⟨v,hv⟩:∃ v:Nat,-1 - e=(v:Int):=⟨(-1 - e).toNat,by omega⟩
  have hv':(-1 - e).toNat=v:=by omega
  rw[hv'] at hvl;have hwv:wrap64 (-1 - e)=(v:Int):=by unfold wrap64;omega
  have hF:rfitsP vars bs e s=(decide (s ∈ vars.getD v []) && (decide (bs.getD v 0 < 0) || bs.getD v 0 == s)):=by unfold rfitsP;rw[if_neg h0,hv']
  obtain⟨vb,vo,ea,-,hca,hia⟩:=hV0.at_ hvl;obtain⟨xh,hxh⟩:∃ z,z=vs[v]:=⟨_,rfl⟩
  rw[← hxh] at hca hia;have hget:vars.getD v []=xh.zs:=by rw[hvars,hxh,List.getD_eq_getElem?_getD,List.getElem?_map,List.getElem?_eq_getElem hvl];rfl
  rw[hget] at hF;obtain⟨xA,xc,zs⟩:=xh;dsimp only at hca hia hF;have hvb:v < bs.length:=by omega
  obtain⟨bb,bo,eb,-,hcb⟩:=hbb.at_ hvb;have hgb:bs.getD v 0=bs[v]:=by rw[List.getD_eq_getElem?_getD,List.getElem?_eq_getElem hvb];rfl
  rw[hgb] at hF;obtain⟨bz,hbz⟩:∃ z,z=bs[v]:=⟨_,rfl⟩
  rw[← hbz] at hcb hF;subst ea eb;have x3:=p0.cell_ 3 (.slice (some ⟨vb,vo,none⟩) vs.length vc) rfl;have HC:Hid (Calls Tryz.prog 34 #[.slice xA zs.length xc,.int .i64 s] w0 fun e w'=>e=.returned (.bool (decide (s ∈ zs)))∧w0=w'):=hid ((has_any xA zs xc s w0 hia).mono fun e w' h=>⟨h.1,h.2.symm⟩);have HRF:=hid (hres.trans hF);have HVV:=hid (And.intro hvl hvb);clear h0 he hv hv' hF hxh hget hgb hbz hia hV0 hbb p0 hres hvars;by_cases hm:s ∈ zs
  ·rw[decide_eq_true hm] at HC HRF;clear hm;by_cases h1:bz < 0
   ·have d1:decide (bz < 0)=true:=decide_eq_true h1;have HF:Hid (res=true):=hid (by rw[HRF.out,d1];rfl);clear h1;go_enter Tryz.func102,Tryz.ntmps102;go_upto_region 1 with fail
    rw[← HW0.out.1,← HW0.out.2];go_wp2_with (go_at_call 34;refine HC.out.mono ?_;rintro en w2 ⟨rfl,rfl⟩;refine Hid.out ?_);refine hid ?_;go_wp2;go_ret;exact⟨ret_bool HF.out.symm,HB0.out⟩
   ·have d1:decide (bz < 0)=false:=decide_eq_false h1;have HF:Hid (res=(bz == s)):=hid (by rw[HRF.out,d1];rfl);clear h1;go_enter Tryz.func102,Tryz.ntmps102;go_upto_region 1 with fail
    rw[← HW0.out.1,← HW0.out.2];go_wp2_with (go_at_call 34;refine HC.out.mono ?_;rintro en w2 ⟨rfl,rfl⟩;refine Hid.out ?_);refine hid ?_;go_wp2;go_ret;exact⟨ret_bool HF.out.symm,HB0.out⟩
  ·rw[decide_eq_false hm] at HC HRF;have HF:Hid (res=false):=hid HRF.out;clear hm;go_enter Tryz.func102,Tryz.ntmps102;go_upto_region 1 with fail
   rw[← HW0.out.1,← HW0.out.2];go_wp2_with (go_at_call 34;refine HC.out.mono ?_;rintro en w2 ⟨rfl,rfl⟩;refine Hid.out ?_);refine hid ?_;go_wp2;go_ret;exact⟨ret_bool HF.out.symm,HB0.out⟩
theorem Ints.take {w:World}{A:Option Addr}{zs:List Int}(h:Ints w A zs)(i:Nat):Ints w A (zs.take i):=by
 refine⟨⟨by simp,fun hn=>?_⟩,?_⟩
 ·obtain⟨ad,e,hb,hc⟩:=h.1.2 (by rw[List.length_take] at hn;omega);refine⟨ad,e,hb,fun j u hj=>hc j u ?_⟩;rw[List.map_take,List.getElem?_take] at hj
  split at hj
  ·exact hj
  ·cases hj
 ·have:=h.2;rw[List.length_take];omega
theorem own_cap {w:World}{base size n:Nat}{e:TypeId}{v:Value}{xs:List Value}(h:w.ownsRow base e size v n xs):∃ A c,v=.slice A n c∧n≤c:=by
 rcases h.2 with ⟨h1,h2⟩ | ⟨g,cap,cur,h3,h4,h5,h6⟩
 ·exact⟨none,0,by rw[h1,h2],by omega⟩
 ·exact⟨some ⟨g,0,none⟩,cap,h3,h6.1⟩
theorem OwnI.capI {I:TypeId}{w:World}{base:Nat}{v:Value}{zs:List Int}(h:OwnI I w base v zs):∃ A c,v=.slice A zs.length c∧Ints w A zs∧zs.length≤c:=by
 obtain⟨A,c,e,h1⟩:=own_cap h;obtain⟨A',c',e',h2,-⟩:=h.ints;rw[e] at e';injection e' with e1 _ e2
 subst e1 e2;exact⟨A,c,e,h2,h1⟩
def leftTo (rest:List Int)(i k:Nat):List Int:=(rest.take k).eraseIdx i
theorem leftTo_skip {rest:List Int}{i:Nat}(h:i < rest.length):leftTo rest i (i+1)=leftTo rest i i:=by
 have h1:(rest.take i).length=i:=by rw[List.length_take];omega
 unfold leftTo;rw[List.take_succ_eq_append_getElem h,List.eraseIdx_append_of_length_le (by omega),h1,Nat.sub_self,List.eraseIdx_of_length_le (l:=rest.take i) (by omega)]
 simp
theorem leftTo_step {rest:List Int}{i k:Nat}(h:k < rest.length)(hk:k≠i):leftTo rest i (k+1)=leftTo rest i k ++ [rest[k]]:=by
 unfold leftTo;rw[List.take_succ_eq_append_getElem h];rcases Nat.lt_or_ge i k with h1 | h1
 ·rw[List.eraseIdx_append_of_lt_length (by rw[List.length_take];omega)]
 ·rw[List.eraseIdx_of_length_le (by rw[List.length_append,List.length_take];simp;omega),List.eraseIdx_of_length_le (by rw[List.length_take];omega)]
theorem leftTo_len (rest:List Int)(i k:Nat):(leftTo rest i k).length≤k:=by
 unfold leftTo;have:=List.length_eraseIdx_le (rest.take k) i;rw[List.length_take] at this;omega
theorem leftTo_full (rest:List Int)(i:Nat):leftTo rest i rest.length=rest.eraseIdx i:=by unfold leftTo;rw[List.take_length]
def rpTo (vars:List (List Int))(out s:Int)(rest bs:List Int)(G:List Int→List Int→Int)(m:Nat):Int × Bool:=(List.range m).foldl (rpStep vars out s rest bs G) (-1,false)
section
variable {vars : List (List Int)} {out s : Int} {rest bs : List Int} {G : List Int → List Int → Int}
theorem rpTo_succ (m:Nat):rpTo vars out s rest bs G (m+1)=rpStep vars out s rest bs G (rpTo vars out s rest bs G m) m:=by
 unfold rpTo;rw[List.range_succ,List.foldl_append];rfl
theorem rpTo_stop {m:Nat}(h:(rpTo vars out s rest bs G m).2=true):∀ d,rpTo vars out s rest bs G (m+d)=rpTo vars out s rest bs G m
 | 0=>rfl
 | d+1=>by
  rw[show m+(d+1)=(m+d)+1 by omega,rpTo_succ,rpTo_stop h d];unfold rpStep;rw[if_pos h]
theorem rpermP_succ {inn:List Int}{c:Int}{L:Nat}(h:((inn.length - (L+1):Nat):Int)≠c):rpermP vars out inn c (L+1) rest bs=(rpTo vars out (inn.getD (inn.length - (L+1)) 0) rest bs (rpermP vars out inn c L) rest.length).1:=by
 rw[rpermP,if_neg h];rfl
end
theorem btr {a b c:World}(h:Below a.heap.size a b)(k:Below b.heap.size b c):Below a.heap.size a c:=h.trans (k.mono h.size)
theorem ne_of_ltP {i n:Nat}(h:i < n):((i:Int) == (n:Int))=false:=beq_false_of_ne (by omega)
theorem wrap_upP {i n:Nat}(h:i < n)(h25:n≤25):wrap64 ((i:Int)+1)=((i+1:Nat):Int)∧wrap64 ((i:Int)+1)=(i:Int)+1:=by unfold wrap64;omega
set_option maxHeartbeats 32000000 in
theorem rperm_any (hA:Option Addr)(hc:Nat)(vA:Option Addr)(vc:Nat)(rA:Option Addr)(rc:Nat)(t:TabH)(out:Int)(iA:Option Addr)(ic:Nat)(inn:List Int)(W0:World)(hp0:Pts W0 hA t.hood)(hV0:Vrs W0 vA t.vs)(hi0:Ints W0 iA inn)(h40:t.vs.length≤40)(h25:inn.length≤25)(ho:ElOk t.vs.length out)(hon:out < 0→(-1 - out).toNat < t.vs.length) :
  ∀ (L:Nat) (rest bs:List Int) (qA:Option Addr) (qc:Nat) (bA:Option Addr) (bc:Nat) (w:World),Below W0.heap.size W0 w→L≤inn.length→Ints w qA rest→rest.length≤qc→rest.length≤25→(∀ e ∈ rest,ElOk t.vs.length e)→Ints w bA bs→bs.length=t.vs.length→
  Calls Tryz.prog 103 #[tabV hA hc vA vc rA rc t,.int .i64 ((inn.length - L:Nat):Int),.slice qA rest.length qc,.int .i64 out,.slice iA inn.length ic,.slice bA bs.length bc] w fun e w'=>e=.returned (.int .i64 (rpermP (t.vs.map Vh.zs) out inn (ctrP t.hood) L rest bs))∧Below w.heap.size w w':=by
 have HTOP:=hid (And.intro hp0 (And.intro hV0 (And.intro hi0 (And.intro h40 ho))));have HFIT:Hid (∀ (W:World) (e s:Int) (bA:Option Addr) (bc:Nat) (bs:List Int),Below W0.heap.size W0 W→Ints W bA bs→bs.length=t.vs.length→ElOk t.vs.length e→Calls Tryz.prog 102 #[tabV hA hc vA vc rA rc t,.int .i64 e,.int .i64 s,.slice bA bs.length bc] W fun en w'=>en=.returned (.bool (rfitsP (t.vs.map Vh.zs) bs e s))∧Below W.heap.size W w'):=hid (fun W e s bA bc bs h1 h2 h3 h4=>rfits_any hA hc vA vc rA rc t e s bA bc bs W (hV0.ext h1) h40 h2 h3 h4);have HCTR:Hid (∀ W:World,Below W0.heap.size W0 W→Calls Tryz.prog 101 #[.slice hA t.hood.length hc] W fun e w'=>e=.returned (.int .i64 (ctrP t.hood))∧Below W.heap.size W w'):=hid (fun W h1=>rcentre_any hA t.hood hc W (hp0.ext h1));obtain⟨vars,hvars⟩:∃ v,v=t.vs.map Vh.zs:=⟨_,rfl⟩
 obtain⟨c,hcc⟩:∃ c,c=ctrP t.hood:=⟨_,rfl⟩
 rw[← hvars] at HFIT ⊢;rw[← hcc] at HCTR ⊢;have H25:=hid (And.intro h25 (And.intro h40 (And.intro ho hon)));have hin9:inn.length≤9223372036854775807:=by omega
 have hh9:t.hood.length≤9223372036854775807:=hp0.le;obtain⟨st,sym,hood,vs,rs⟩:=t;unfold tabV at HFIT ⊢;dsimp only at HTOP HFIT HCTR H25 hh9 hvars ⊢;clear hp0 hV0 hi0 h40 ho hvars hcc h25 hon;intro L;induction L with
 | zero=>
  intro rest bs qA qc bA bc w hb hL hq hqc hq25 hel hbs hbl;obtain⟨w0,hw0⟩:∃ w0,w0=w.alloc (.cells #[.int .i64 st,.int .i64 sym,.slice hA hood.length hc,.slice vA vs.length vc,.slice rA rs.length rc] 26):=⟨_,rfl⟩
  have hb0:Below w.heap.size w w0:=by rw[hw0];exact below_new _ _
  obtain⟨r,hr⟩:∃ r,r=outP bs out:=⟨_,rfl⟩
  have HRP:Hid (rpermP vars out inn c 0 rest bs=r):=hid (by rw[rpermP,hr]);have HB0:=hid hb0;have HW0:=hid hw0;have hbs0:=hbs.ext hb0;rw[Nat.sub_zero];by_cases h0:0≤out
  ·have d0:decide (0≤out)=true:=decide_eq_true h0;have HF:Hid (r=out):=hid (by rw[hr];unfold outP;rw[if_pos h0]);clear h0 hr hw0 hb0 hb hL hq hqc hq25 hel hbs hbl hbs0;go_enter Tryz.func103,Tryz.ntmps103;go_upto_region 1 with fail
   rw[← HW0.out];go_wp2;go_ret;exact⟨ret_int (HRP.out.trans HF.out).symm,HB0.out⟩
  ·have d0:decide (0≤out)=false:=decide_eq_false h0;have hvl:=H25.out.2.2.2 (by omega);obtain⟨v,hv⟩:∃ v:Nat,-1 - out=(v:Int):=⟨(-1 - out).toNat,by omega⟩
   have hv':(-1 - out).toNat=v:=by omega
   rw[hv'] at hvl;have hwv:wrap64 (-1 - out)=(v:Int):=by have:=H25.out.2.1;unfold wrap64;omega
   have HF:Hid (r=bs.getD v 0):=hid (by rw[hr];unfold outP;rw[if_neg h0,hv']);have hvb:v < bs.length:=by omega
   obtain⟨bb,bo,eb,-,hcb⟩:=hbs0.at_ hvb;have hgb:bs.getD v 0=bs[v]:=by rw[List.getD_eq_getElem?_getD,List.getElem?_eq_getElem hvb];rfl
   rw[hgb] at HF;obtain⟨bz,hbz⟩:∃ z,z=bs[v]:=⟨_,rfl⟩
   rw[← hbz] at hcb HF;subst eb;have hb9:bs.length≤9223372036854775807:=hbs.le;clear h0 hr hw0 hb0 hb hL hq hqc hq25 hel hbs hbs0 hv hv' hgb hbz hvl hbl;go_enter Tryz.func103,Tryz.ntmps103;go_upto_region 1 with fail
   rw[← HW0.out];go_wp2;go_ret;exact⟨ret_int (HRP.out.trans HF.out).symm,HB0.out⟩
 | succ L ih=>
  intro rest bs qA qc bA bc w hb hL hq hqc hq25 hel hbs hbl;obtain⟨w0,hw0⟩:∃ w0,w0=w.alloc (.cells #[.int .i64 st,.int .i64 sym,.slice hA hood.length hc,.slice vA vs.length vc,.slice rA rs.length rc] 26):=⟨_,rfl⟩
  have hb0:Below w.heap.size w w0:=by rw[hw0];exact below_new _ _
  have p0:Blk w0 w.heap.size 26 #[.int .i64 st,.int .i64 sym,.slice hA hood.length hc,.slice vA vs.length vc,.slice rA rs.length rc]:=by rw[hw0];exact Blk.new _ _ _
  obtain⟨gT,hgT⟩:∃ g,g=w.heap.size:=⟨_,rfl⟩
  rw[← hgT] at p0;have HB0:=hid hb0;have HP:=hid p0;have HW0:=hid (And.intro hw0 hgT);have HLO:=hid (hb.trans (hb0.mono hb.size));have HQ:=hid (And.intro (hq.ext hb0) (And.intro hqc (And.intro hq25 hel)));have HBS:=hid (And.intro (hbs.ext hb0) hbl);have HIH:=hid ih;obtain⟨i,hii⟩:∃ i,i=inn.length - (L+1):=⟨_,rfl⟩
  rw[← hii];have hil:i < inn.length:=by omega
  have hi1:inn.length - L=i+1:=by omega
  have HII:=hid (And.intro hii (And.intro hi1 hil));have hwi:=(wrap_upP hil H25.out.1).1;have d0:((i:Int) == (inn.length:Int))=false:=ne_of_ltP hil;have hq9:rest.length≤9223372036854775807:=by omega
  have hb9:bs.length≤9223372036854775807:=hbs.le;have HCALL:=hid (HCTR.out w0 HLO.out);have x2:=p0.cell_ 2 (.slice hA hood.length hc) rfl;clear hb0 p0 hw0 hgT hb hL hq hqc hq25 hel hbs hbl ih hii hi1;go_enter Tryz.func103,Tryz.ntmps103;go_upto_region 1 with fail
  rw[← HW0.out.1,← HW0.out.2];go_wp2_with (go_at_call 101;refine HCALL.out.mono ?_;rintro e w1 ⟨rfl,hb1⟩;refine Hid.out ?_);refine hid ?_;have HB1:=hid hb1;have HL1:=hid (HLO.out.trans (hb1.mono HLO.out.size));clear hb1 x2 HCALL;have x0:=(HP.out.below HB1.out HP.out.lt).cell_ 0 (.int .i64 st) rfl;have x1:=(HP.out.below HB1.out HP.out.lt).cell_ 1 (.int .i64 sym) rfl;have x2:=(HP.out.below HB1.out HP.out.lt).cell_ 2 (.slice hA hood.length hc) rfl;have x3:=(HP.out.below HB1.out HP.out.lt).cell_ 3 (.slice vA vs.length vc) rfl;have x4:=(HP.out.below HB1.out HP.out.lt).cell_ 4 (.slice rA rs.length rc) rfl;by_cases hc:(i:Int)=c
  ·have d1:((i:Int) == c)=true:=beq_iff_eq.2 hc;have HRP:Hid (rpermP vars out inn c (L+1) rest bs=rpermP vars out inn c L rest bs):=hid (by rw[rpermP,← HII.out.1,if_pos hc]);have hcall:=HIH.out rest bs qA qc bA bc w1 HL1.out (by have:=HII.out;omega) (HQ.out.1.ext HB1.out) HQ.out.2.1 HQ.out.2.2.1 HQ.out.2.2.2 (HBS.out.1.ext HB1.out) HBS.out.2;rw[HII.out.2.1] at hcall;have HCALL:=hid hcall;clear hcall hc;go_wp2_with (go_at_call 103;refine HCALL.out.mono ?_;rintro e w2 ⟨rfl,hb2⟩;refine Hid.out ?_);refine hid ?_;go_wp2;go_ret;exact⟨ret_int HRP.out.symm,HB0.out.trans ((HB1.out.trans (hb2.mono HB1.out.size)).mono HB0.out.size)⟩
  ·have d1:((i:Int) == c)=false:=beq_false_of_ne hc;obtain⟨s,hss⟩:∃ s,s=inn.getD i 0:=⟨_,rfl⟩
   have HRP:Hid (rpermP vars out inn c (L+1) rest bs=(rpTo vars out s rest bs (rpermP vars out inn c L) rest.length).1):=hid (by
    rw[rpermP_succ (by rw[← HII.out.1];exact hc),hss,HII.out.1])
   have HSS:=hid hss;clear hc hss;go_upto_region 10 with fail
   clear x0 x1 x2 x3 x4 d0 d1;go_loopw [14,15] (fun fv iv wr=>∃ (k:Nat) (f:Int),k≤rest.length∧iv=.int .i64 k∧fv=.int .i64 f∧Hid (rpTo vars out s rest bs (rpermP vars out inn c L) k=(f,false))∧Hid (Below w1.heap.size w1 wr)) (fun _ iv _=>rest.length - (intOf iv).toNat)
   case atStart=>exact⟨0,-1,Nat.zero_le _,rfl,rfl,hid rfl,hid (Below.refl _ _)⟩
   case round=>
    obtain⟨k,f,hk,rfl,rfl,HS,HBW⟩:=hrel;by_cases hkl:k < rest.length
    ·have hwk:=(wrap_upP hkl HQ.out.2.2.1).2;have HWK:=hid hwk;have hqk:=HQ.out.1.ext (HB1.out.trans (HBW.out.mono HB1.out.size));have HLW:=hid (HL1.out.trans (HBW.out.mono HL1.out.size));obtain⟨qb,qo,eq,-,hcq⟩:=hqk.at_ hkl;have hik:=HTOP.out.2.2.1.ext HLW.out;obtain⟨ib,io,ei,-,hci⟩:=hik.at_ HII.out.2.2;have hgs:s=inn[i]'HII.out.2.2:=by rw[HSS.out,List.getD_eq_getElem?_getD,List.getElem?_eq_getElem HII.out.2.2];rfl
     rw[← hgs] at hci;have HSI:Hid (s=inn[i]'HII.out.2.2):=hid hgs;have hge:rest.getD k 0=rest[k]:=by rw[List.getD_eq_getElem?_getD,List.getElem?_eq_getElem hkl];rfl
     have hel:=HQ.out.2.2.2 rest[k] (List.getElem_mem hkl);have HSTEP:=hid (rpTo_succ (vars:=vars) (out:=out) (s:=s) (rest:=rest) (bs:=bs) (G:=rpermP vars out inn c L) k);rw[HS.out] at HSTEP;unfold rpStep at HSTEP;rw[if_neg (show ¬ ((f,false):Int × Bool).2=true from Bool.false_ne_true),hge] at HSTEP;have hbk:=HBS.out.1.ext (HB1.out.trans (HBW.out.mono HB1.out.size));obtain⟨e,hee⟩:∃ e,e=rest[k]:=⟨_,rfl⟩
     rw[← hee] at hcq hge hel HSTEP;have HEK:Hid (e=rest[k]'hkl):=hid hee;have hkc:k≤qc:=by have:=HQ.out.2.1;omega
     have htk:(rest.take k).length=k:=by rw[List.length_take];omega
     obtain⟨b1,hb1⟩:∃ b,b=rfitsP vars bs e s:=⟨_,rfl⟩
     obtain⟨b2,hb2⟩:∃ b,b=decide (e ∈ rest.take k):=⟨_,rfl⟩
     have HCF:Hid (∀ d os,Calls Tryz.prog 102 #[.agg #[.int .i64 st,.int .i64 sym,.slice hA hood.length hc,.slice vA vs.length vc,.slice rA rs.length rc],.int .i64 e,.int .i64 s,.slice bA bs.length bc] (grow (redrawn wr d) os) fun en w''=>en=.returned (.bool b1)∧∃ p:Regrown,w''=grow (redrawn wr p.1) p.2):=hid (fun d os=>by rw[hb1];exact Calls.regrown_of (HFIT.out _ e s bA bc bs (HLW.out.trans ((below_regrown wr d os).mono HLW.out.size)) (hbk.ext (below_regrown wr d os)) HBS.out.2 hel));have HCH:Hid (∀ d os,Calls Tryz.prog 34 #[.slice qA k qc,.int .i64 e] (grow (redrawn wr d) os) fun en w''=>en=.returned (.bool b2)∧∃ p:Regrown,w''=grow (redrawn wr p.1) p.2):=hid (fun d os=>by
      have h9:=has_any qA (rest.take k) qc e (grow (redrawn wr d) os) ((hqk.take k).ext (below_regrown wr d os));rw[htk] at h9;rw[hb2];exact Calls.regrown_of (h9.mono fun _ _ h=>⟨h.1,by rw[h.2];exact Below.refl _ _⟩))
     have HBB:=hid (And.intro hb1 hb2);have hqj:=cell_regrown hcq;have hij:=cell_regrown hci;have hpw:=HP.out.below (HB1.out.trans (HBW.out.mono HB1.out.size)) HP.out.lt;have k0:=cell_regrown (hpw.cell_ 0 (.int .i64 st) rfl);have k1:=cell_regrown (hpw.cell_ 1 (.int .i64 sym) rfl);have k2:=cell_regrown (hpw.cell_ 2 (.slice hA hood.length hc) rfl);have k3:=cell_regrown (hpw.cell_ 3 (.slice vA vs.length vc) rfl);have k4:=cell_regrown (hpw.cell_ 4 (.slice rA rs.length rc) rfl);have HEL:=hid hel;have HQK:=hid hqk;have HBK:=hid hbk;have HKL:=hid hkl;have HCI:=hid hci;have HCQ:=hid hcq;have hil:=HII.out.2.2;subst eq ei;clear hk hwk hgs hge hel hqk hik hbk hee htk hb1 hb2 hpw hcq hci;go_upto_region 12 with fail
     refine wp_region_quiet_below (by kernel_rfl) (by kernel_rfl) ?_;cases b1 with
     | false=>
      have HN:Hid (rpTo vars out s rest bs (rpermP vars out inn c L) (k+1)=(f,false)):=hid (by rw[HSTEP.out,if_pos (.inl HBB.out.1.symm)]);repeat (go_big_quiet_step (first | with_reducible exact HCF.out _ _ | with_reducible exact HCH.out _ _))
      refine wpQuiet_nil ?_;intro _ hw';obtain⟨⟨dq,osq⟩,hw''⟩:=hw';subst hw'';have HBN:=hid (HBW.out.trans ((below_regrown wr dq osq).mono HBW.out.size));clear k0 k1 k2 k3 k4 hqj hij;go_wp2;go_roundw
      case rel=>exact⟨k+1,f,HKL.out,(by first | rfl | (rw[HWK.out];rfl)),rfl,HN,HBN⟩
      case measure=>(try rw[HWK.out]);exact meas_step HKL.out
     | true=>
      cases b2 with
      | true=>
       have HN:Hid (rpTo vars out s rest bs (rpermP vars out inn c L) (k+1)=(f,false)):=hid (by rw[HSTEP.out,if_pos (.inr (of_decide_eq_true HBB.out.2.symm))]);repeat (go_big_quiet_step (first | with_reducible exact HCF.out _ _ | with_reducible exact HCH.out _ _))
       refine wpQuiet_nil ?_;intro _ hw';obtain⟨⟨dq,osq⟩,hw''⟩:=hw';subst hw'';have HBN:=hid (HBW.out.trans ((below_regrown wr dq osq).mono HBW.out.size));clear k0 k1 k2 k3 k4 hqj hij;go_wp2;go_roundw
       case rel=>exact⟨k+1,f,HKL.out,(by first | rfl | (rw[HWK.out];rfl)),rfl,HN,HBN⟩
       case measure=>(try rw[HWK.out]);exact meas_step HKL.out
      | false=>
       obtain⟨G,hG⟩:∃ G,G=leastP f (rpermP vars out inn c L (rest.eraseIdx k) (rsetP bs e s)):=⟨_,rfl⟩
       have HN:Hid (rpTo vars out s rest bs (rpermP vars out inn c L) (k+1)=(G,decide (0≤G) && decide (0≤out))):=hid (by
        rw[HSTEP.out,if_neg (by rintro (h | h);rw[← HBB.out.1] at h;cases h;exact of_decide_eq_false HBB.out.2.symm h),hG])
       have HGG:=hid hG;clear hG;repeat (go_big_quiet_step (first | with_reducible exact HCF.out _ _ | with_reducible exact HCH.out _ _))
       refine wpQuiet_nil ?_;intro _ hw';obtain⟨⟨dq,osq⟩,hw''⟩:=hw';subst hw'';obtain⟨w5,hw5⟩:∃ W,W=grow (redrawn wr dq) osq:=⟨_,rfl⟩
       have hb5:Below wr.heap.size wr w5:=by rw[hw5];exact below_regrown wr dq osq
       rw[← hw5];have HB5:=hid (HBW.out.trans (hb5.mono HBW.out.size));have HQ5:=hid (HQK.out.ext hb5);have HK5:=hid (HBK.out.ext hb5);clear hw5 hb5 k0 k1 k2 k3 k4 hqj hij hkc HQK HBK HCI HCQ;go_upto_region 15 with fail
       go_loopw [16,17] (fun lv jv wl=>∃ j:Nat,j≤rest.length∧jv=.int .i64 j∧Hid (OwnIA wl w5.heap.size lv (leftTo rest k j))∧Hid (Below w5.heap.size w5 wl)) (fun _ jv _=>rest.length - (intOf jv).toNat)
       case atStart=>exact⟨0,Nat.zero_le _,rfl,hid (OwnI.nil _ _ _),hid (Below.refl _ _)⟩
       case round=>
        obtain⟨j,hj,rfl,HLF,HBL⟩:=hrel;by_cases hjl:j < rest.length
        ·have hwj:=(wrap_upP hjl HQ.out.2.2.1).2;have HWJ:=hid hwj;by_cases hjk:j=k
         ·have d2:((j:Int) != (k:Int))=false:=by rw[hjk];simp
          have HL2:Hid (OwnIA wr w5.heap.size u16 (leftTo rest k (j+1))):=hid (by have h:=HLF.out;rw[hjk] at h ⊢;rw[leftTo_skip HKL.out];exact h);have HJ:=hid hjl;clear hj hjk hwj;go_wp2;go_roundw
          case rel=>exact⟨j+1,HJ.out,(by first | rfl | (rw[HWJ.out];rfl)),HL2,HBL⟩
          case measure=>(try rw[HWJ.out]);exact meas_step HJ.out
         ·have d2:((j:Int) != (k:Int))=true:=by simp;omega
          have hstep:=leftTo_step (rest:=rest) (i:=k) hjl hjk;obtain⟨qb',qo',eq',-,hcj⟩:=(HQ5.out.ext HBL.out).at_ hjl;injection eq' with eq'
          injection eq' with e1 e2
          subst e1 e2;obtain⟨x,hx⟩:∃ x,x=rest[j]:=⟨_,rfl⟩
          rw[← hx] at hcj hstep;have HST:=hid hstep;have hown:=HLF.out;have hln:(leftTo rest k j).length < 1000000000000:=by have:=leftTo_len rest k j;have:=HQ.out.2.2.1;omega
          have hbs:=HBL.out.size;have HJ:=hid hjl;clear hj hjk hwj hstep hx;go_wp2_with (at_builtin;refine wpList_pushI rfl _ _ _ rfl w5.heap.size 3 Tryz.underlying38 Tryz.infoInt _ _ rfl hown _ rfl hln hbs ?_);intro v' w7 ho' hb';have HO7:Hid (OwnIA w7 w5.heap.size v' (leftTo rest k (j+1))):=hid (by rw[HST.out];exact ho');have HB7:=hid (HBL.out.trans hb');clear ho' hb' hown hln hbs hcj;go_wp2;go_roundw
          case rel=>exact⟨j+1,HJ.out,(by first | rfl | (rw[HWJ.out];rfl)),HO7,HB7⟩
          case measure=>(try rw[HWJ.out]);exact meas_step HJ.out
        ·obtain rfl:j=rest.length:=Nat.le_antisymm hj (Nat.le_of_not_lt hjl);rw[leftTo_full] at HLF;clear hj hjl;obtain⟨lA,lc,elv,hli,hlc⟩:=HLF.out.capI;subst elv;obtain⟨wl,hwl⟩:∃ W,W=wr:=⟨_,rfl⟩
         rw[← hwl] at HLF HBL hli ⊢;have HLI:=hid (And.intro hli hlc);obtain⟨i0,hi0,hz0,hz1,hz2⟩:=info_parts Tryz.infoInt;have hmw:wl.heap.size≤wl.heap.size:=Nat.le_refl _;have hb40:bs.length≤40:=by have h1:=HBS.out.2;have h2:=H25.out.2.1;omega
         have HB40:=hid hb40;clear hwl hli hlc;go_wp2_with (at_make;refine wpList_make_full _ rfl _ _ 38 rfl wl.heap.size 3 i0 _ 1 Tryz.underlying38 hi0 hz0 hz1 .i64 .i64 bs.length bs.length bs.length rfl rfl rfl rfl (by rw[hz2];omega) (by unfold maxLen;omega) hmw ?_);intro wn ho1 hg1;have hbn:Below wl.heap.size wl wn:=(Below.refl _ wl).grown hg1 (Nat.le_refl _) (by intro k hk;cases hk);have hr1:OwnIA wn wl.heap.size (.slice (some ⟨wl.heap.size,0,none⟩) bs.length bs.length) (fillL bs 0):=by
          unfold OwnIA OwnI;rw[fillL_zero,List.length_replicate,List.map_replicate];rw[toList_madeCells_one] at ho1;exact ho1
         obtain⟨gN,hgN⟩:∃ g,g=wl.heap.size:=⟨_,rfl⟩
         have HGL:Hid (wl.heap.size≤gN):=hid (by rw[hgN];exact Nat.le_refl _);have HR1:Hid (OwnIA wn wl.heap.size (.slice (some ⟨gN,0,none⟩) bs.length bs.length) (fillL bs 0)):=hid (by rw[hgN];exact hr1);rw[← hgN];have HBN:=hid hbn;clear ho1 hg1 hbn hr1 hgN hi0 hz0 hz1 hz2 hmw hb40;go_upto_region 21 with fail
         go_loopw [19] (fun mv wm=>∃ m:Nat,m≤bs.length∧mv=.int .i64 m∧Hid (OwnIA wm wl.heap.size (.slice (some ⟨gN,0,none⟩) bs.length bs.length) (fillL bs m))∧Hid (Below wl.heap.size wl wm)) (fun mv _=>bs.length - (intOf mv).toNat)
         case atStart=>exact⟨0,Nat.zero_le _,rfl,HR1,HBN⟩
         case round=>
          clear HR1 HBN;obtain⟨m,hm,rfl,HO,HBM⟩:=hrel;by_cases hml:m < bs.length
          ·have hwm:wrap64 ((m:Int)+1)=(m:Int)+1:=by have:=HB40.out;unfold wrap64;omega
           have HWM:=hid hwm;obtain⟨bb,bo,eb,-,hcb⟩:=((HK5.out.ext HBL.out).ext HBM.out).at_ hml;have hfs:=fillL_step hml;obtain⟨bz,hbz⟩:∃ z,z=bs[m]:=⟨_,rfl⟩
           rw[← hbz] at hcb hfs;obtain⟨cb,fb⟩:=HO.out.cellk (k:=m) (by rw[fillL_len hm];exact hml);have hset:=HO.out.set (by rw[fillL_len hm]) m bz;rw[hfs] at hset;have HO2:=hid hset;have HB2:=hid (HBM.out.setCell (p:=⟨gN,m,none⟩) HGL.out (.int .i64 bz));have HM:=hid hml;subst eb;clear hm hwm hbz hfs hset;go_wp2;go_roundw
           case rel=>exact⟨m+1,HM.out,(by first | rfl | (rw[HWM.out];rfl)),HO2,HB2⟩
           case measure=>(try rw[HWM.out]);exact meas_step HM.out
          ·obtain rfl:m=bs.length:=Nat.le_antisymm hm (Nat.le_of_not_lt hml);rw[fillL_all] at HO;clear hm hml;obtain⟨wm,hwm⟩:∃ W,W=wr:=⟨_,rfl⟩
           rw[← hwm] at HO HBM ⊢;obtain⟨qb',qo',eq',-,hcq⟩:=((HQ5.out.ext HBL.out).ext HBM.out).at_ HKL.out;injection eq' with eq'
           injection eq' with e1 e2
           subst e1 e2;have hge:rest[k]'HKL.out=e:=HEK.out.symm;rw[hge] at hcq;clear hwm hge;by_cases he0:e < 0
           ·have d3:decide (e < 0)=true:=decide_eq_true he0;have hvl:=HEL.out.1 he0;obtain⟨v,hv⟩:∃ v:Nat,-1 - e=(v:Int):=⟨(-1 - e).toNat,by omega⟩
            have hv':(-1 - e).toNat=v:=by omega
            rw[hv'] at hvl;have hwv:wrap64 (-1 - e)=(v:Int):=by have:=H25.out.2.1;unfold wrap64;omega
            have hrs:rsetP bs e s=bs.set v s:=by unfold rsetP;rw[if_neg (by omega),hv']
            have hvb:v < bs.length:=by rw[HBS.out.2];exact hvl
            obtain⟨cb,fb⟩:=HO.out.cellk (k:=v) hvb;have HSET:=hid (HO.out.set rfl v s);have HBV:=hid (HBM.out.setCell (p:=⟨gN,v,none⟩) HGL.out (.int .i64 s));have H5m:=btr HBL.out HBM.out;have H1m:=btr HB5.out H5m;have H0m:=btr HL1.out H1m;obtain⟨ib',io',ei',-,hci⟩:=(HTOP.out.2.2.1.ext H0m).at_ HII.out.2.2;injection ei' with ei'
            injection ei' with e1 e2
            subst e1 e2;rw[show inn[i]'HII.out.2.2=s from HSI.out.symm] at hci;have hil:=HII.out.2.2;have hkl2:=HKL.out;clear H5m H1m H0m hv hv' hvl he0;go_wp2;go_region
            obtain⟨wz,hwz⟩:∃ W,W=(wm.setCell ⟨gN,v,none⟩ (.int .i64 s)).drew:=⟨_,rfl⟩
            have HNZ:Hid (OwnIA wz wl.heap.size (.slice (some ⟨gN,0,none⟩) bs.length bs.length) (rsetP bs e s)):=hid (by rw[hwz,hrs];exact HSET.out);have HBZ:Hid (Below wl.heap.size wl wz):=hid (by rw[hwz];exact HBV.out.drew);rw[← hwz];clear hwz hrs hci hcq cb fb d3 hwv hvb HSET HBV HO;have H5z:=btr HBL.out HBZ.out;have H1z:=btr HB5.out H5z;have H0z:=btr HL1.out H1z;have hlen:(rsetP bs e s).length=bs.length:=by
             unfold rsetP
             split
             ·rfl
             ·rw[List.length_set]
            have hle:(rest.eraseIdx k).length≤25:=by have h1:=List.length_eraseIdx_le rest k;have h2:=HQ.out.2.2.1;omega
            have hcall:=HIH.out (rest.eraseIdx k) (rsetP bs e s) lA lc (some ⟨gN,0,none⟩) bs.length wz H0z (by have:=HII.out;omega) (HLI.out.1.ext HBZ.out) HLI.out.2 hle (fun x hx=>HQ.out.2.2.2 x (List.mem_of_mem_eraseIdx hx)) (OwnI.reads HNZ.out) (by rw[hlen];exact HBS.out.2);rw[HII.out.2.1,hlen] at hcall;obtain⟨r9,hr9⟩:∃ r,r=rpermP vars out inn c L (rest.eraseIdx k) (rsetP bs e s):=⟨_,rfl⟩
            rw[← hr9] at hcall;have HG9:Hid (G=leastP f r9):=hid (by rw[HGG.out,hr9]);have HCALL:=hid hcall;have hpz:=HP.out.below (btr HB1.out H1z) HP.out.lt;have x0:=hpz.cell_ 0 (.int .i64 st) rfl;have x1:=hpz.cell_ 1 (.int .i64 sym) rfl;have x2:=hpz.cell_ 2 (.slice hA hood.length hc) rfl;have x3:=hpz.cell_ 3 (.slice vA vs.length vc) rfl;have x4:=hpz.cell_ 4 (.slice rA rs.length rc) rfl;have H1Z:=hid H1z;clear hcall hr9 hlen hle H5z H1z H0z hpz;go_wp2_with (go_at_call 103;refine HCALL.out.mono ?_;rintro en w8 ⟨rfl,hb8⟩;refine Hid.out ?_);refine hid ?_;have HB8:=hid (btr H1Z.out hb8);have hls:=(rleast_any f r9 w8).mono (fun e w' h=>(⟨h.1,h.2.symm⟩:e=.returned (.int .i64 (leastP f r9))∧w8=w'));rw[← HG9.out] at hls;have HLS:=hid hls;clear hb8 hls HCALL x0 x1 x2 x3 x4;go_wp2_with (go_at_call 99;refine HLS.out.mono ?_;rintro en w9 ⟨rfl,rfl⟩;refine Hid.out ?_);refine hid ?_;by_cases hg1:0≤G
            ·have d4:decide (0≤G)=true:=decide_eq_true hg1;by_cases hg2:0≤out
             ·have d5:decide (0≤out)=true:=decide_eq_true hg2;have HRS:Hid (rpermP vars out inn c (L+1) rest bs=G):=hid (by
               obtain⟨d,hd⟩:∃ d,rest.length=k+1+d:=⟨rest.length - (k+1),by omega⟩
               rw[HRP.out,hd,rpTo_stop (by rw[HN.out,d4,d5];rfl) d,HN.out])
              clear hg1 hg2;go_wp2;go_ret;exact⟨ret_int HRS.out.symm,HB0.out.trans ((btr HB1.out HB8.out).mono HB0.out.size)⟩
             ·have d5:decide (0≤out)=false:=decide_eq_false hg2;have HN2:Hid (rpTo vars out s rest bs (rpermP vars out inn c L) (k+1)=(G,false)):=hid (by rw[HN.out,d5,Bool.and_false]);clear hg1 hg2;go_wp2;go_roundw
              case rel=>exact⟨k+1,G,HKL.out,(by first | rfl | (rw[HWK.out];rfl)),rfl,HN2,HB8⟩
              case measure=>(try rw[HWK.out]);exact meas_step HKL.out
            ·have d4:decide (0≤G)=false:=decide_eq_false hg1;have HN2:Hid (rpTo vars out s rest bs (rpermP vars out inn c L) (k+1)=(G,false)):=hid (by rw[HN.out,d4,Bool.false_and]);clear hg1;go_wp2;go_roundw
             case rel=>exact⟨k+1,G,HKL.out,(by first | rfl | (rw[HWK.out];rfl)),rfl,HN2,HB8⟩
             case measure=>(try rw[HWK.out]);exact meas_step HKL.out
           ·have d3:decide (e < 0)=false:=decide_eq_false he0;have hrs:rsetP bs e s=bs:=by unfold rsetP;rw[if_pos (by omega)]
            have HNZ:Hid (OwnIA wm wl.heap.size (.slice (some ⟨gN,0,none⟩) bs.length bs.length) (rsetP bs e s)):=hid (by rw[hrs];exact HO.out);have HBZ:=HBM;have hkl2:=HKL.out;clear he0 hrs;go_upto_region 26 with fail
            clear hcq d3;obtain⟨wz,hwz⟩:∃ W,W=wm:=⟨_,rfl⟩
            rw[← hwz] at HNZ HBZ ⊢;clear hwz;have H5z:=btr HBL.out HBZ.out;have H1z:=btr HB5.out H5z;have H0z:=btr HL1.out H1z;have hlen:(rsetP bs e s).length=bs.length:=by
             unfold rsetP
             split
             ·rfl
             ·rw[List.length_set]
            have hle:(rest.eraseIdx k).length≤25:=by have h1:=List.length_eraseIdx_le rest k;have h2:=HQ.out.2.2.1;omega
            have hcall:=HIH.out (rest.eraseIdx k) (rsetP bs e s) lA lc (some ⟨gN,0,none⟩) bs.length wz H0z (by have:=HII.out;omega) (HLI.out.1.ext HBZ.out) HLI.out.2 hle (fun x hx=>HQ.out.2.2.2 x (List.mem_of_mem_eraseIdx hx)) (OwnI.reads HNZ.out) (by rw[hlen];exact HBS.out.2);rw[HII.out.2.1,hlen] at hcall;obtain⟨r9,hr9⟩:∃ r,r=rpermP vars out inn c L (rest.eraseIdx k) (rsetP bs e s):=⟨_,rfl⟩
            rw[← hr9] at hcall;have HG9:Hid (G=leastP f r9):=hid (by rw[HGG.out,hr9]);have HCALL:=hid hcall;have hpz:=HP.out.below (btr HB1.out H1z) HP.out.lt;have x0:=hpz.cell_ 0 (.int .i64 st) rfl;have x1:=hpz.cell_ 1 (.int .i64 sym) rfl;have x2:=hpz.cell_ 2 (.slice hA hood.length hc) rfl;have x3:=hpz.cell_ 3 (.slice vA vs.length vc) rfl;have x4:=hpz.cell_ 4 (.slice rA rs.length rc) rfl;have H1Z:=hid H1z;clear hcall hr9 hlen hle H5z H1z H0z hpz;go_wp2_with (go_at_call 103;refine HCALL.out.mono ?_;rintro en w8 ⟨rfl,hb8⟩;refine Hid.out ?_);refine hid ?_;have HB8:=hid (btr H1Z.out hb8);have hls:=(rleast_any f r9 w8).mono (fun e w' h=>(⟨h.1,h.2.symm⟩:e=.returned (.int .i64 (leastP f r9))∧w8=w'));rw[← HG9.out] at hls;have HLS:=hid hls;clear hb8 hls HCALL x0 x1 x2 x3 x4;go_wp2_with (go_at_call 99;refine HLS.out.mono ?_;rintro en w9 ⟨rfl,rfl⟩;refine Hid.out ?_);refine hid ?_;by_cases hg1:0≤G
            ·have d4:decide (0≤G)=true:=decide_eq_true hg1;by_cases hg2:0≤out
             ·have d5:decide (0≤out)=true:=decide_eq_true hg2;have HRS:Hid (rpermP vars out inn c (L+1) rest bs=G):=hid (by
               obtain⟨d,hd⟩:∃ d,rest.length=k+1+d:=⟨rest.length - (k+1),by omega⟩
               rw[HRP.out,hd,rpTo_stop (by rw[HN.out,d4,d5];rfl) d,HN.out])
              clear hg1 hg2;go_wp2;go_ret;exact⟨ret_int HRS.out.symm,HB0.out.trans ((btr HB1.out HB8.out).mono HB0.out.size)⟩
             ·have d5:decide (0≤out)=false:=decide_eq_false hg2;have HN2:Hid (rpTo vars out s rest bs (rpermP vars out inn c L) (k+1)=(G,false)):=hid (by rw[HN.out,d5,Bool.and_false]);clear hg1 hg2;go_wp2;go_roundw
              case rel=>exact⟨k+1,G,HKL.out,(by first | rfl | (rw[HWK.out];rfl)),rfl,HN2,HB8⟩
              case measure=>(try rw[HWK.out]);exact meas_step HKL.out
            ·have d4:decide (0≤G)=false:=decide_eq_false hg1;have HN2:Hid (rpTo vars out s rest bs (rpermP vars out inn c L) (k+1)=(G,false)):=hid (by rw[HN.out,d4,Bool.false_and]);clear hg1;go_wp2;go_roundw
             case rel=>exact⟨k+1,G,HKL.out,(by first | rfl | (rw[HWK.out];rfl)),rfl,HN2,HB8⟩
             case measure=>(try rw[HWK.out]);exact meas_step HKL.out
    ·obtain rfl:k=rest.length:=Nat.le_antisymm hk (Nat.le_of_not_lt hkl);clear hk hkl;go_wp2;go_ret;exact⟨ret_int (by rw[HRP.out,HS.out]),HB0.out.trans ((HB1.out.trans (HBW.out.mono HB1.out.size)).mono HB0.out.size)⟩
end Go.Proofs.YtlegfdllipkggaaGreatDoor
