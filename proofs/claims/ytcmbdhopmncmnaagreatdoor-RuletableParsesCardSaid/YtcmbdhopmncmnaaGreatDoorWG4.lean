/-
  texts RuleR States Next15 Match15 TreeP: parts of the proof; conditions stand with each theorem.
-/
import Derived.Test.YtcmbdhopmncmnaaGreatDoorWG1
import Derived.Test.YtcmbdhopmncmnaaGreatDoorWG2
import Derived.Test.YtcmbdhopmncmnaaGreatDoorWG3
namespace Go.Proofs.YtcmbdhopmncmnaaGreatDoor
open Lib(hid)
open Go.RowKit
set_option maxRecDepth 100000
set_option linter.unusedVariables false
set_option linter.unusedSimpArgs false
def okVarS (st:Int):Option Int→List Int→Bool
 | _,[]=>true
 | q,s :: l=>decide (0≤s) && decide (s < st) && (match q with | none=>true | some a=>decide (a < s)) && okVarS st (some s) l
def okVar (st:Int)(l:List Int):Bool:=decide (0 < l.length) && okVarS st none l
def elB (st:Int)(nv:Nat)(e:Int):Bool:=decide (e < st) && decide (-(nv:Int)≤e)
def okRow (st:Int)(nv nh:Nat)(r:Rw):Bool:=decide (r.1.length=nh) && elB st nv r.2 && (decide (0≤r.2) || decide (r.2 ∈ r.1)) && r.1.all (elB st nv)
def headTab (t:TabL):Bool:=decide (2≤t.st) && decide (t.st≤8) && hoodB t.hood && permP t.hood t.sym && decide (t.vars.length≤40) && decide (t.rows.length≤400)
def rightTab (t:TabL):Bool:=headTab t && t.vars.all (okVar t.st) && t.rows.all (okRow t.st t.vars.length t.hood.length)
def prevO (l:List Int):Nat→Option Int
 | 0=>none
 | k+1=>l[k]?
theorem okVarS_yes {st:Int}{l:List Int}{k:Nat}(h:k < l.length)(h1:0≤l[k])(h2:l[k] < st)(h3:(match prevO l k with | none=>true | some a=>decide (a < l[k]))=true):okVarS st (prevO l k) (l.drop k)=okVarS st (prevO l (k+1)) (l.drop (k+1)):=by
 rw[List.drop_eq_getElem_cons h];show (decide (0≤l[k]) && decide (l[k] < st) && _ && okVarS st (some l[k]) (l.drop (k+1)))=okVarS st l[k]? (l.drop (k+1));rw[decide_eq_true h1,decide_eq_true h2,h3,List.getElem?_eq_getElem h];rfl
theorem okVarS_no {st:Int}{l:List Int}{k:Nat}(h:k < l.length)(h1:¬ 0≤l[k]∨¬ l[k] < st∨(match prevO l k with | none=>true | some a=>decide (a < l[k]))=false):okVarS st (prevO l k) (l.drop k)=false:=by
 rw[List.drop_eq_getElem_cons h];show (decide (0≤l[k]) && decide (l[k] < st) && _ && okVarS st (some l[k]) (l.drop (k+1)))=false;rcases h1 with h1 | h1 | h1
 ·rw[decide_eq_false h1];simp
 ·rw[decide_eq_false h1];simp
 ·rw[h1];simp
theorem all_dropM {α β:Type}(f:α→β)(p:β→Bool){l:List α}{k:Nat}(h:k < l.length):((l.drop k).map f).all p=(p (f l[k]) && ((l.drop (k+1)).map f).all p):=by
 rw[List.drop_eq_getElem_cons h];rfl
theorem all_drop0 {α:Type}(p:α→Bool){l:List α}{k:Nat}(h:k < l.length):(l.drop k).all p=(p l[k] && (l.drop (k+1)).all p):=by
 rw[List.drop_eq_getElem_cons h];rfl
set_option maxHeartbeats 4000000 in
theorem elc_any (g:Nat)(st sym:Int)(hA:Option Addr)(nh hc:Nat)(vA:Option Addr)(nv vc:Nat)(rA:Option Addr)(nr rc:Nat)(n:Int)(w:World)(hg:Blk w g 26 #[.int .i64 st,.int .i64 sym,.slice hA nh hc,.slice vA nv vc,.slice rA nr rc])(hv:nv≤1000000000) :
  Calls Tryz.prog 29 #[.int .i64 n,.pointer (some ⟨g,0,none⟩)] w fun e w'=>e=.returned (.bool (elB st nv n))∧w'=w:=by
 have c0:=hg.cell_ 0 (.int .i64 st) rfl;have c3:=hg.cell_ 3 (.slice vA nv vc) rfl;have hw:wrap64 (-(nv:Int)) = -(nv:Int):=by unfold wrap64;omega
 have hv9:nv≤9223372036854775807:=by omega
 obtain⟨r,hr⟩:∃ r,r=elB st nv n:=⟨_,rfl⟩
 rw[← hr];have HR:=hid hr;clear hr hg hv;by_cases h1:n < st
 ·have d1:decide (n < st)=true:=decide_eq_true h1;have HE:Hid (r=decide (-(nv:Int)≤n)):=hid (by rw[HR.out];unfold elB;rw[d1];rfl);clear h1;go_enter Tryz.func29,Tryz.ntmps29;go_wp2;go_ret;exact⟨ret_bool HE.out.symm,rfl⟩
 ·have d1:decide (n < st)=false:=decide_eq_false h1;have HE:Hid (r=false):=hid (by rw[HR.out];unfold elB;rw[d1];rfl);clear h1;go_enter Tryz.func29,Tryz.ntmps29;go_wp2;go_ret;exact⟨ret_bool HE.out.symm,rfl⟩
set_option maxHeartbeats 32000000 in
theorem rright15_any (hA:Option Addr)(hc:Nat)(vA:Option Addr)(vc:Nat)(rA:Option Addr)(rc:Nat)(t:TabH)(w:World)(hT:TabR w hA vA rA t)(hG:GMat w) :
  Calls Tryz.prog 10 #[tabV hA hc vA vc rA rc t] w fun e w'=>e=.returned (.bool (rightTab t.tab))∧Below w.heap.size w w':=by
 obtain⟨st,sym,hood,vs,rs⟩:=t;unfold tabV;dsimp only;obtain⟨w0,hw0⟩:∃ w0,w0=w.alloc (.cells #[.int .i64 st,.int .i64 sym,.slice hA hood.length hc,.slice vA vs.length vc,.slice rA rs.length rc] 26):=⟨_,rfl⟩
 have hb0:Below w.heap.size w w0:=by rw[hw0];exact below_new _ _
 have p0:Blk w0 w.heap.size 26 #[.int .i64 st,.int .i64 sym,.slice hA hood.length hc,.slice vA vs.length vc,.slice rA rs.length rc]:=by rw[hw0];exact Blk.new _ _ _
 obtain⟨gT,hgT⟩:∃ g,g=w.heap.size:=⟨_,rfl⟩
 rw[← hgT] at p0;have HT:=hid (hT.ext hb0);have HCH:=hid (hood_any hA hc hood w0 (hT.ext hb0).hood);have HCP:=hid (fun W (hW:Below w0.heap.size w0 W)=>permits_any hA hood hc sym W ((hT.ext hb0).hood.ext hW) ((hG.ext hb0).ext hW));have HB0:=hid hb0;have HP:=hid p0;have HW0:=hid (And.intro hw0 hgT);have hh9:hood.length≤9223372036854775807:=hT.hood.le;have hv9:vs.length≤9223372036854775807:=hT.vars.le;have hr9:rs.length≤9223372036854775807:=hT.rows.le;obtain⟨res,hres⟩:∃ r,r=rightTab (TabH.tab ⟨st,sym,hood,vs,rs⟩):=⟨_,rfl⟩
 rw[← hres];have HRES:Hid (res=(decide (2≤st) && decide (st≤8) && hoodB hood && permP hood sym && decide (vs.length≤40) && decide (rs.length≤400) && (vs.map Vh.zs).all (okVar st) && (rs.map Rh.rw_).all (okRow st vs.length hood.length))):=hid (by
  rw[hres];unfold rightTab headTab TabH.tab;dsimp only;rw[List.length_map,List.length_map])
 clear hb0 p0 hw0 hgT hT hG hres;have x0:=HP.out.cell_ 0 (.int .i64 st) rfl;have x1:=HP.out.cell_ 1 (.int .i64 sym) rfl;have x2:=HP.out.cell_ 2 (.slice hA hood.length hc) rfl;have x3:=HP.out.cell_ 3 (.slice vA vs.length vc) rfl;have x4:=HP.out.cell_ 4 (.slice rA rs.length rc) rfl;by_cases h1:st < 2
 ·have d1:decide (st < 2)=true:=decide_eq_true h1;have HF:Hid (res=false):=hid (by rw[HRES.out,decide_eq_false (by omega:¬ 2≤st)];rfl);clear h1;go_enter Tryz.func10,Tryz.ntmps10;go_upto_region 1 with fail
  rw[← HW0.out.1,← HW0.out.2];go_wp2;go_ret;exact⟨ret_bool HF.out.symm,HB0.out⟩
 have d1:decide (st < 2)=false:=decide_eq_false h1;by_cases h2:8 < st
 ·have d2:decide (8 < st)=true:=decide_eq_true h2;have HF:Hid (res=false):=hid (by rw[HRES.out,decide_eq_false (by omega:¬ st≤8)];simp);clear h1 h2;go_enter Tryz.func10,Tryz.ntmps10;go_upto_region 1 with fail
  rw[← HW0.out.1,← HW0.out.2];go_wp2;go_ret;exact⟨ret_bool HF.out.symm,HB0.out⟩
 have d2:decide (8 < st)=false:=decide_eq_false h2;have HST:Hid (2≤st∧st≤8):=hid ⟨by omega,by omega⟩;clear h1 h2;cases h3:hoodB hood with
 | false=>
  have HF:Hid (res=false):=hid (by rw[HRES.out,h3];simp);rw[h3] at HCH;clear h3;go_enter Tryz.func10,Tryz.ntmps10;go_upto_region 1 with fail
  rw[← HW0.out.1,← HW0.out.2];go_wp2_with (go_at_call 27;refine HCH.out.mono ?_;rintro e w1 ⟨rfl,hb1⟩;refine Hid.out ?_);refine hid ?_;have HB1:=hid hb1;have HP1:=hid (HP.out.below hb1 HP.out.lt);clear hb1 x0 x1 x2 x3 x4;have x0:=HP1.out.cell_ 0 (.int .i64 st) rfl;have x1:=HP1.out.cell_ 1 (.int .i64 sym) rfl;have x2:=HP1.out.cell_ 2 (.slice hA hood.length hc) rfl;have x3:=HP1.out.cell_ 3 (.slice vA vs.length vc) rfl;have x4:=HP1.out.cell_ 4 (.slice rA rs.length rc) rfl;go_wp2;go_ret;exact⟨ret_bool HF.out.symm,HB0.out.trans (HB1.out.mono HB0.out.size)⟩
 | true=>
 have HHB:=hid h3;rw[h3] at HCH;cases h4:permP hood sym with
 | false=>
  have HF:Hid (res=false):=hid (by rw[HRES.out,h4];simp);rw[h4] at HCP;clear h3 h4;go_enter Tryz.func10,Tryz.ntmps10;go_upto_region 1 with fail
  rw[← HW0.out.1,← HW0.out.2];go_wp2_with (go_at_call 27;refine HCH.out.mono ?_;rintro e w1 ⟨rfl,hb1⟩;refine Hid.out ?_);refine hid ?_;have HB1:=hid hb1;have HP1:=hid (HP.out.below hb1 HP.out.lt);clear hb1 x0 x1 x2 x3 x4;have x0:=HP1.out.cell_ 0 (.int .i64 st) rfl;have x1:=HP1.out.cell_ 1 (.int .i64 sym) rfl;have x2:=HP1.out.cell_ 2 (.slice hA hood.length hc) rfl;have x3:=HP1.out.cell_ 3 (.slice vA vs.length vc) rfl;have x4:=HP1.out.cell_ 4 (.slice rA rs.length rc) rfl;have HCQ:=hid (HCP.out w1 HB1.out);go_wp2_with (go_at_call 28;refine HCQ.out.mono ?_;rintro e w2 ⟨rfl,hb2⟩;refine Hid.out ?_);refine hid ?_;have HB2:=hid (HB1.out.trans (hb2.mono HB1.out.size));have HP2:=hid (HP.out.below HB2.out HP.out.lt);clear hb2 x0 x1 x2 x3 x4;have x0:=HP2.out.cell_ 0 (.int .i64 st) rfl;have x1:=HP2.out.cell_ 1 (.int .i64 sym) rfl;have x2:=HP2.out.cell_ 2 (.slice hA hood.length hc) rfl;have x3:=HP2.out.cell_ 3 (.slice vA vs.length vc) rfl;have x4:=HP2.out.cell_ 4 (.slice rA rs.length rc) rfl;go_wp2;go_ret;exact⟨ret_bool HF.out.symm,HB0.out.trans (HB2.out.mono HB0.out.size)⟩
 | true=>
 rw[h4] at HCP;have HPM:=hid h4;clear h3 h4;by_cases h5:40 < vs.length
 ·have d5:decide ((40:Int) < (vs.length:Int))=true:=decide_eq_true (by omega);have d5':decide (40 < vs.length)=true:=decide_eq_true h5;have HF:Hid (res=false):=hid (by rw[HRES.out,decide_eq_false (by omega:¬ vs.length≤40)];simp);clear h5;go_enter Tryz.func10,Tryz.ntmps10;go_upto_region 1 with fail
  rw[← HW0.out.1,← HW0.out.2];go_wp2_with (go_at_call 27;refine HCH.out.mono ?_;rintro e w1 ⟨rfl,hb1⟩;refine Hid.out ?_);refine hid ?_;have HB1:=hid hb1;have HP1:=hid (HP.out.below hb1 HP.out.lt);clear hb1 x0 x1 x2 x3 x4;have x0:=HP1.out.cell_ 0 (.int .i64 st) rfl;have x1:=HP1.out.cell_ 1 (.int .i64 sym) rfl;have x2:=HP1.out.cell_ 2 (.slice hA hood.length hc) rfl;have x3:=HP1.out.cell_ 3 (.slice vA vs.length vc) rfl;have x4:=HP1.out.cell_ 4 (.slice rA rs.length rc) rfl;have HCQ:=hid (HCP.out w1 HB1.out);go_wp2_with (go_at_call 28;refine HCQ.out.mono ?_;rintro e w2 ⟨rfl,hb2⟩;refine Hid.out ?_);refine hid ?_;have HB2:=hid (HB1.out.trans (hb2.mono HB1.out.size));have HP2:=hid (HP.out.below HB2.out HP.out.lt);clear hb2 x0 x1 x2 x3 x4;have x0:=HP2.out.cell_ 0 (.int .i64 st) rfl;have x1:=HP2.out.cell_ 1 (.int .i64 sym) rfl;have x2:=HP2.out.cell_ 2 (.slice hA hood.length hc) rfl;have x3:=HP2.out.cell_ 3 (.slice vA vs.length vc) rfl;have x4:=HP2.out.cell_ 4 (.slice rA rs.length rc) rfl;go_wp2;go_ret;exact⟨ret_bool HF.out.symm,HB0.out.trans (HB2.out.mono HB0.out.size)⟩
 have d5:decide ((40:Int) < (vs.length:Int))=false:=decide_eq_false (by omega);have d5':decide (40 < vs.length)=false:=decide_eq_false h5;by_cases h6:400 < rs.length
 ·have d6:decide ((400:Int) < (rs.length:Int))=true:=decide_eq_true (by omega);have d6':decide (400 < rs.length)=true:=decide_eq_true h6;have HF:Hid (res=false):=hid (by rw[HRES.out,decide_eq_false (by omega:¬ rs.length≤400)];simp);clear h5 h6;go_enter Tryz.func10,Tryz.ntmps10;go_upto_region 1 with fail
  rw[← HW0.out.1,← HW0.out.2];go_wp2_with (go_at_call 27;refine HCH.out.mono ?_;rintro e w1 ⟨rfl,hb1⟩;refine Hid.out ?_);refine hid ?_;have HB1:=hid hb1;have HP1:=hid (HP.out.below hb1 HP.out.lt);clear hb1 x0 x1 x2 x3 x4;have x0:=HP1.out.cell_ 0 (.int .i64 st) rfl;have x1:=HP1.out.cell_ 1 (.int .i64 sym) rfl;have x2:=HP1.out.cell_ 2 (.slice hA hood.length hc) rfl;have x3:=HP1.out.cell_ 3 (.slice vA vs.length vc) rfl;have x4:=HP1.out.cell_ 4 (.slice rA rs.length rc) rfl;have HCQ:=hid (HCP.out w1 HB1.out);go_wp2_with (go_at_call 28;refine HCQ.out.mono ?_;rintro e w2 ⟨rfl,hb2⟩;refine Hid.out ?_);refine hid ?_;have HB2:=hid (HB1.out.trans (hb2.mono HB1.out.size));have HP2:=hid (HP.out.below HB2.out HP.out.lt);clear hb2 x0 x1 x2 x3 x4;have x0:=HP2.out.cell_ 0 (.int .i64 st) rfl;have x1:=HP2.out.cell_ 1 (.int .i64 sym) rfl;have x2:=HP2.out.cell_ 2 (.slice hA hood.length hc) rfl;have x3:=HP2.out.cell_ 3 (.slice vA vs.length vc) rfl;have x4:=HP2.out.cell_ 4 (.slice rA rs.length rc) rfl;go_wp2;go_ret;exact⟨ret_bool HF.out.symm,HB0.out.trans (HB2.out.mono HB0.out.size)⟩
 have d6:decide ((400:Int) < (rs.length:Int))=false:=decide_eq_false (by omega);have d6':decide (400 < rs.length)=false:=decide_eq_false h6;have HLN:Hid (vs.length≤40∧rs.length≤400):=hid ⟨by omega,by omega⟩;have HRES2:Hid (res=((vs.map Vh.zs).all (okVar st) && (rs.map Rh.rw_).all (okRow st vs.length hood.length))):=hid (by
  rw[HRES.out,decide_eq_true HST.out.1,decide_eq_true HST.out.2,HHB.out,HPM.out,decide_eq_true HLN.out.1,decide_eq_true HLN.out.2]
  simp)
 clear h5 h6;go_enter Tryz.func10,Tryz.ntmps10;go_upto_region 1 with fail
 rw[← HW0.out.1,← HW0.out.2];go_wp2_with (go_at_call 27;refine HCH.out.mono ?_;rintro e w1 ⟨rfl,hb1⟩;refine Hid.out ?_);refine hid ?_;have HB1:=hid hb1;have HP1:=hid (HP.out.below hb1 HP.out.lt);clear hb1 x0 x1 x2 x3 x4;have x0:=HP1.out.cell_ 0 (.int .i64 st) rfl;have x1:=HP1.out.cell_ 1 (.int .i64 sym) rfl;have x2:=HP1.out.cell_ 2 (.slice hA hood.length hc) rfl;have x3:=HP1.out.cell_ 3 (.slice vA vs.length vc) rfl;have x4:=HP1.out.cell_ 4 (.slice rA rs.length rc) rfl;have HCQ:=hid (HCP.out w1 HB1.out);go_wp2_with (go_at_call 28;refine HCQ.out.mono ?_;rintro e w2 ⟨rfl,hb2⟩;refine Hid.out ?_);refine hid ?_;have HB2:=hid (HB1.out.trans (hb2.mono HB1.out.size));have HP2:=hid (HP.out.below HB2.out HP.out.lt);clear hb2 x0 x1 x2 x3 x4;have x0:=HP2.out.cell_ 0 (.int .i64 st) rfl;have x1:=HP2.out.cell_ 1 (.int .i64 sym) rfl;have x2:=HP2.out.cell_ 2 (.slice hA hood.length hc) rfl;have x3:=HP2.out.cell_ 3 (.slice vA vs.length vc) rfl;have x4:=HP2.out.cell_ 4 (.slice rA rs.length rc) rfl;go_upto_region 4 with fail
 clear d1 d2 d5 d5' d6 d6' x0 x1 x2 x3 x4;have HP2:=hid (HP.out.below HB2.out HP.out.lt);have HT2:=hid (HT.out.ext HB2.out);have c0:=HP2.out.cell_ 0 (.int .i64 st) rfl;have HBE:=hid (HB0.out.trans (HB2.out.mono HB0.out.size));clear HB1;go_loopw [49] (fun iv wr=>∃ i:Nat,i≤vs.length∧iv=.int .i64 i∧w2=wr∧Hid ((vs.map Vh.zs).all (okVar st)=((vs.drop i).map Vh.zs).all (okVar st))) (fun iv _=>vs.length - (intOf iv).toNat)
 case atStart=>exact⟨0,Nat.zero_le _,rfl,rfl,hid rfl⟩
 case round=>
  obtain⟨i,hi,rfl,rfl,HD⟩:=hrel;by_cases hil:i < vs.length
  ·obtain⟨vb,vo,ea,-,hca,hia⟩:=HT2.out.vars.at_ hil;have hAD:=HD.out.trans (all_dropM Vh.zs (okVar st) hil);obtain⟨xh,hxh⟩:∃ z,z=vs[i]:=⟨_,rfl⟩
   rw[← hxh] at hca hia hAD;obtain⟨xA,xc,l⟩:=xh;dsimp only at hca hia hAD ea;subst ea;have HAD:=hid hAD;have HI:=hid hil;have hwi:wrap64 ((i:Int)+1)=(i:Int)+1:=by unfold wrap64;omega
   have HWI:=hid hwi;have hl9:l.length≤9223372036854775807:=hia.le;have HIA:=hid hia;clear hAD hxh hia hi hwi;by_cases h0:l.length=0
   ·have d0:((l.length:Int) == 0)=true:=beq_iff_eq.2 (by omega);have HF:Hid (res=false):=hid (by rw[HRES2.out,HAD.out];unfold okVar;rw[decide_eq_false (by omega:¬ 0 < l.length)];rfl);clear h0;go_wp2;go_ret;exact⟨ret_bool HF.out.symm,HBE.out⟩
   ·have d0:((l.length:Int) == 0)=false:=beq_false_of_ne (by omega);have HOK:Hid (okVar st l=okVarS st none l):=hid (by unfold okVar;rw[decide_eq_true (by omega:0 < l.length)];rfl);clear h0;go_upto_region 9 with fail
    go_loopw [58] (fun jv wr=>∃ j:Nat,j≤l.length∧jv=.int .i64 j∧w2=wr∧Hid (okVarS st none l=okVarS st (prevO l j) (l.drop j))) (fun jv _=>l.length - (intOf jv).toNat)
    case atStart=>exact⟨0,Nat.zero_le _,rfl,rfl,hid rfl⟩
    case round=>
     obtain⟨j,hj,rfl,rfl,HS⟩:=hrel;by_cases hjl:j < l.length
     ·obtain⟨xb,xo,ex,-,hcj⟩:=HIA.out.at_ hjl;subst ex;have HNO:=hid (fun h=>okVarS_no (st:=st) hjl h);have HYE:=hid (fun h1 h2 h3=>okVarS_yes (st:=st) hjl h1 h2 h3);obtain⟨s,hs⟩:∃ s,s=l[j]:=⟨_,rfl⟩
      rw[← hs] at hcj HNO HYE;have HJ:=hid hjl;have hwj:wrap64 ((j:Int)+1)=(j:Int)+1:=by unfold wrap64;omega
      have HWJ:=hid hwj;have HBAD:Hid (okVarS st (prevO l j) (l.drop j)=false→res=false):=hid (fun h=>by rw[HRES2.out,HAD.out,HOK.out,HS.out,h];rfl);clear hs hj hwj;by_cases e1:s < 0
      ·have q1:decide (s < 0)=true:=decide_eq_true e1;have HF:Hid (res=false):=hid (HBAD.out (HNO.out (.inl (by omega))));clear e1;go_wp2;go_ret;exact⟨ret_bool HF.out.symm,HBE.out⟩
      ·have q1:decide (s < 0)=false:=decide_eq_false e1;by_cases e2:st≤s
       ·have q2:decide (st≤s)=true:=decide_eq_true e2;have HF:Hid (res=false):=hid (HBAD.out (HNO.out (.inr (.inl (by omega)))));clear e1 e2;go_wp2;go_ret;exact⟨ret_bool HF.out.symm,HBE.out⟩
       ·have q2:decide (st≤s)=false:=decide_eq_false e2;have HE12:=hid (And.intro e1 e2);clear e1 e2;cases j with
        | zero=>
         rw[Nat.add_zero] at hcj;have HS2:Hid (okVarS st none l=okVarS st (prevO l (0+1)) (l.drop (0+1))):=hid (HS.out.trans (HYE.out (by have:=HE12.out.1;omega) (by have:=HE12.out.2;omega) rfl));go_wp2;go_roundw
         case rel=>exact⟨0+1,HJ.out,(by first | rfl | (rw[HWJ.out];rfl)),(by first | rfl | trivial),HS2⟩
         case measure=>(try rw[HWJ.out]);exact meas_step HJ.out
        | succ j'=>
         have hj':j' < l.length:=Nat.lt_of_succ_lt hjl;obtain⟨xb',xo',ex',-,hcp⟩:=HIA.out.at_ hj';obtain⟨rfl,rfl⟩:xb=xb'∧xo=xo':=by injection ex' with ex';injection ex' with h1 h2;exact⟨h1,h2⟩
         have hpv:prevO l (j'+1)=some l[j']:=List.getElem?_eq_getElem hj';obtain⟨a,ha⟩:∃ a,a=l[j']:=⟨_,rfl⟩
         rw[← ha] at hcp hpv;rw[hpv] at HNO HYE HS HBAD;have q3:decide ((0:Int) < ((j'+1:Nat):Int))=true:=decide_eq_true (by omega);have q3':decide ((0:Int) < (j':Int)+1)=true:=decide_eq_true (by omega);have hws:wrap64 (((j'+1:Nat):Int) - 1)=(j':Int):=by unfold wrap64;omega
         have hws':wrap64 ((j':Int)+1 - 1)=(j':Int):=by unfold wrap64;omega
         clear ex' ha hpv;by_cases e3:s≤a
         ·have q4:decide (s≤a)=true:=decide_eq_true e3;have HF:Hid (res=false):=hid (HBAD.out (HNO.out (.inr (.inr (decide_eq_false (by omega))))));clear e3;go_wp2;go_ret;exact⟨ret_bool HF.out.symm,HBE.out⟩
         ·have q4:decide (s≤a)=false:=decide_eq_false e3;have HS2:Hid (okVarS st none l=okVarS st (prevO l (j'+1+1)) (l.drop (j'+1+1))):=hid (HS.out.trans (HYE.out (by have:=HE12.out.1;omega) (by have:=HE12.out.2;omega) (decide_eq_true (by omega))));clear e3;go_wp2;go_roundw
          case rel=>exact⟨j'+1+1,HJ.out,(by first | rfl | (rw[HWJ.out];rfl)),(by first | rfl | trivial),HS2⟩
          case measure=>(try rw[HWJ.out]);exact meas_step HJ.out
     ·obtain rfl:j=l.length:=Nat.le_antisymm hj (Nat.le_of_not_lt hjl);have HOV:Hid (okVar st l=true):=hid (by rw[HOK.out,HS.out,List.drop_length];cases prevO l l.length <;> rfl);have HD2:Hid ((vs.map Vh.zs).all (okVar st)=((vs.drop (i+1)).map Vh.zs).all (okVar st)):=hid (by rw[HAD.out,HOV.out];rfl);clear hj hjl;go_wp2;go_roundw
      case rel=>exact⟨i+1,HI.out,(by first | rfl | (rw[HWI.out];rfl)),(by first | rfl | trivial),HD2⟩
      case measure=>(try rw[HWI.out]);exact meas_step HI.out
  ·obtain rfl:i=vs.length:=Nat.le_antisymm hi (Nat.le_of_not_lt hil);have HRES3:Hid (res=(rs.map Rh.rw_).all (okRow st vs.length hood.length)):=hid (by rw[HRES2.out,HD.out,List.drop_length];rfl);have c4:=HP2.out.cell_ 4 (.slice rA rs.length rc) rfl;clear hi hil HD;go_upto_region 17 with fail
   clear c4 c0;go_loopw [90] (fun iv wr=>∃ i:Nat,i≤rs.length∧iv=.int .i64 i∧Hid (Below w2.heap.size w2 wr)∧Hid ((rs.map Rh.rw_).all (okRow st vs.length hood.length)=((rs.drop i).map Rh.rw_).all (okRow st vs.length hood.length))) (fun iv _=>rs.length - (intOf iv).toNat)
   case atStart=>exact⟨0,Nat.zero_le _,rfl,hid (Below.refl _ _),hid rfl⟩
   case round=>
    obtain⟨i,hi,rfl,HBW,HD⟩:=hrel;by_cases hil:i < rs.length
    ·obtain⟨rb,ro,ea,-,hca,hda,hia⟩:=(HT2.out.rows.ext HBW.out).at_ hil;have hAD:=HD.out.trans (all_dropM Rh.rw_ (okRow st vs.length hood.length) hil);obtain⟨xh,hxh⟩:∃ z,z=rs[i]:=⟨_,rfl⟩
     rw[← hxh] at hca hda hia hAD;obtain⟨xA,xc,zs,out⟩:=xh;dsimp only at hca hda hia hAD ea;subst ea;have HAD:Hid ((rs.map Rh.rw_).all (okRow st vs.length hood.length)=(okRow st vs.length hood.length (zs,out) && ((rs.drop (i+1)).map Rh.rw_).all (okRow st vs.length hood.length))):=hid hAD;have HI:=hid hil;have hwi:wrap64 ((i:Int)+1)=(i:Int)+1:=by unfold wrap64;omega
     have HWI:=hid hwi;have hz9:zs.length≤9223372036854775807:=hia.le;obtain⟨wb,hwb⟩:∃ W,W=wr.alloc (.cells #[.slice xA zs.length xc,.int .i64 out] 48):=⟨_,rfl⟩
     have hbb:Below wr.heap.size wr wb:=by rw[hwb];exact below_new _ _
     obtain⟨gR,hgR⟩:∃ g,g=wr.heap.size:=⟨_,rfl⟩
     have HRB:Hid (Blk wb gR 48 #[.slice xA zs.length xc,.int .i64 out]):=hid (by rw[hgR,hwb];exact Blk.new _ _ _);have HBB:=hid (HBW.out.trans (hbb.mono HBW.out.size));have HIA:=hid (hia.ext hbb);have HWB:=hid (And.intro hwb hgR);have HPB:=hid (HP2.out.below HBB.out HP2.out.lt);have HBF:=hid (HBE.out.trans (HBB.out.mono HBE.out.size));have HEL:Hid (∀ n,Calls Tryz.prog 29 #[.int .i64 n,.pointer (some ⟨gT,0,none⟩)] wb fun e w'=>e=.returned (.bool (elB st vs.length n))∧wb=w'):=hid (fun n=>(elc_any gT st sym hA hood.length hc vA vs.length vc (some ⟨rb,ro,none⟩) rs.length rc n wb HPB.out (by have:=HLN.out.1;omega)).mono fun e w' h=>⟨h.1,h.2.symm⟩);have HBAD:Hid (okRow st vs.length hood.length (zs,out)=false→res=false):=hid (fun h=>by rw[HRES3.out,HAD.out,h];rfl);have r0:=HRB.out.cell_ 0 (.slice xA zs.length xc) rfl;have r1:=HRB.out.cell_ 1 (.int .i64 out) rfl;have c2:=HPB.out.cell_ 2 (.slice hA hood.length hc) rfl;clear hAD hxh hia hi hwi hwb hgR hbb;go_upto_region 19 with fail
     rw[← HWB.out.1,← HWB.out.2];clear hca hda;by_cases e1:zs.length=hood.length
     ·have q1:((zs.length:Int) != (hood.length:Int))=false:=by simp[e1]
      have q1':(zs.length != hood.length)=false:=by simp[e1]
      have HE1:=hid e1;clear e1;have HEO:=hid (HEL.out out);cases e2:elB st vs.length out with
      | false=>
       have HF:Hid (res=false):=hid (HBAD.out (by unfold okRow;dsimp only;rw[e2];simp));rw[e2] at HEO;clear e2;go_wp2_with (go_at_call 29;refine HEO.out.mono ?_;rintro e w5 ⟨rfl,rfl⟩;refine Hid.out ?_);refine hid ?_;go_wp2;go_ret;exact⟨ret_bool HF.out.symm,HBF.out⟩
      | true=>
       have HE2:=hid e2;rw[e2] at HEO;clear e2;by_cases e3:out < 0
       ·have q3:decide (out < 0)=true:=decide_eq_true e3;have HCN:Hid (Calls Tryz.prog 30 #[.slice xA zs.length xc,.int .i64 out] wb fun e w'=>e=.returned (.bool (decide (out ∈ zs)))∧wb=w'):=hid ((contains_any xA zs xc out wb HIA.out).mono fun e w' h=>⟨h.1,h.2.symm⟩);by_cases e4:out ∈ zs
        ·rw[decide_eq_true e4] at HCN;have HRO:Hid (okRow st vs.length hood.length (zs,out)=zs.all (elB st vs.length)):=hid (by unfold okRow;dsimp only;rw[decide_eq_true HE1.out,HE2.out,decide_eq_true e4];simp);clear e3 e4;go_wp2_with (go_at_call 29;refine HEO.out.mono ?_;rintro e w5 ⟨rfl,rfl⟩;refine Hid.out ?_);refine hid ?_;go_wp2_with (go_at_call 30;refine HCN.out.mono ?_;rintro e w5 ⟨rfl,rfl⟩;refine Hid.out ?_);refine hid ?_;go_upto_region 22 with fail
         go_loopw [124] (fun jv wr=>∃ j:Nat,j≤zs.length∧jv=.int .i64 j∧wb=wr∧Hid (zs.all (elB st vs.length)=(zs.drop j).all (elB st vs.length))) (fun jv _=>zs.length - (intOf jv).toNat)
         case atStart=>exact⟨0,Nat.zero_le _,rfl,rfl,hid rfl⟩
         case round=>
          obtain⟨j,hj,rfl,rfl,HS⟩:=hrel;by_cases hjl:j < zs.length
          ·obtain⟨xb,xo,ex,-,hcj⟩:=HIA.out.at_ hjl;subst ex;have HAL:=hid (HS.out.trans (all_drop0 (elB st vs.length) hjl));obtain⟨n,hn⟩:∃ s,s=zs[j]:=⟨_,rfl⟩
           rw[← hn] at hcj HAL;have HJ:=hid hjl;have hwj:wrap64 ((j:Int)+1)=(j:Int)+1:=by unfold wrap64;omega
           have HWJ:=hid hwj;have HEN:=hid (HEL.out n);clear hn hj hwj;cases e5:elB st vs.length n with
           | false=>
            have HF:Hid (res=false):=hid (HBAD.out (by rw[HRO.out,HAL.out,e5];rfl));rw[e5] at HEN;clear e5;go_wp2_with (go_at_call 29;refine HEN.out.mono ?_;rintro e w5 ⟨rfl,rfl⟩;refine Hid.out ?_);refine hid ?_;go_wp2;go_ret;exact⟨ret_bool HF.out.symm,HBF.out⟩
           | true=>
            have HS2:Hid (zs.all (elB st vs.length)=(zs.drop (j+1)).all (elB st vs.length)):=hid (by rw[HAL.out,e5];rfl);rw[e5] at HEN;clear e5;go_wp2_with (go_at_call 29;refine HEN.out.mono ?_;rintro e w5 ⟨rfl,rfl⟩;refine Hid.out ?_);refine hid ?_;go_wp2;go_roundw
            case rel=>exact⟨j+1,HJ.out,(by first | rfl | (rw[HWJ.out];rfl)),(by first | rfl | trivial),HS2⟩
            case measure=>(try rw[HWJ.out]);exact meas_step HJ.out
          ·obtain rfl:j=zs.length:=Nat.le_antisymm hj (Nat.le_of_not_lt hjl);have HOV:Hid (okRow st vs.length hood.length (zs,out)=true):=hid (by rw[HRO.out,HS.out,List.drop_length];rfl);have HD2:Hid ((rs.map Rh.rw_).all (okRow st vs.length hood.length)=((rs.drop (i+1)).map Rh.rw_).all (okRow st vs.length hood.length)):=hid (by rw[HAD.out,HOV.out];rfl);clear hj hjl;go_wp2;go_roundw
           case rel=>exact⟨i+1,HI.out,(by first | rfl | (rw[HWI.out];rfl)),HBB,HD2⟩
           case measure=>(try rw[HWI.out]);exact meas_step HI.out
        ·rw[decide_eq_false e4] at HCN;have HF:Hid (res=false):=hid (HBAD.out (by unfold okRow;dsimp only;rw[decide_eq_false e4,decide_eq_false (by omega:¬ 0≤out)];simp));clear e3 e4;go_wp2_with (go_at_call 29;refine HEO.out.mono ?_;rintro e w5 ⟨rfl,rfl⟩;refine Hid.out ?_);refine hid ?_;go_wp2_with (go_at_call 30;refine HCN.out.mono ?_;rintro e w5 ⟨rfl,rfl⟩;refine Hid.out ?_);refine hid ?_;go_wp2;go_ret;exact⟨ret_bool HF.out.symm,HBF.out⟩
       ·have q3:decide (out < 0)=false:=decide_eq_false e3;have HRO:Hid (okRow st vs.length hood.length (zs,out)=zs.all (elB st vs.length)):=hid (by unfold okRow;dsimp only;rw[decide_eq_true HE1.out,HE2.out,decide_eq_true (by omega:0≤out)];simp);clear e3;go_wp2_with (go_at_call 29;refine HEO.out.mono ?_;rintro e w5 ⟨rfl,rfl⟩;refine Hid.out ?_);refine hid ?_;go_upto_region 22 with fail
        go_loopw [124] (fun jv wr=>∃ j:Nat,j≤zs.length∧jv=.int .i64 j∧wb=wr∧Hid (zs.all (elB st vs.length)=(zs.drop j).all (elB st vs.length))) (fun jv _=>zs.length - (intOf jv).toNat)
        case atStart=>exact⟨0,Nat.zero_le _,rfl,rfl,hid rfl⟩
        case round=>
         obtain⟨j,hj,rfl,rfl,HS⟩:=hrel;by_cases hjl:j < zs.length
         ·obtain⟨xb,xo,ex,-,hcj⟩:=HIA.out.at_ hjl;subst ex;have HAL:=hid (HS.out.trans (all_drop0 (elB st vs.length) hjl));obtain⟨n,hn⟩:∃ s,s=zs[j]:=⟨_,rfl⟩
          rw[← hn] at hcj HAL;have HJ:=hid hjl;have hwj:wrap64 ((j:Int)+1)=(j:Int)+1:=by unfold wrap64;omega
          have HWJ:=hid hwj;have HEN:=hid (HEL.out n);clear hn hj hwj;cases e5:elB st vs.length n with
          | false=>
           have HF:Hid (res=false):=hid (HBAD.out (by rw[HRO.out,HAL.out,e5];rfl));rw[e5] at HEN;clear e5;go_wp2_with (go_at_call 29;refine HEN.out.mono ?_;rintro e w5 ⟨rfl,rfl⟩;refine Hid.out ?_);refine hid ?_;go_wp2;go_ret;exact⟨ret_bool HF.out.symm,HBF.out⟩
          | true=>
           have HS2:Hid (zs.all (elB st vs.length)=(zs.drop (j+1)).all (elB st vs.length)):=hid (by rw[HAL.out,e5];rfl);rw[e5] at HEN;clear e5;go_wp2_with (go_at_call 29;refine HEN.out.mono ?_;rintro e w5 ⟨rfl,rfl⟩;refine Hid.out ?_);refine hid ?_;go_wp2;go_roundw
           case rel=>exact⟨j+1,HJ.out,(by first | rfl | (rw[HWJ.out];rfl)),(by first | rfl | trivial),HS2⟩
           case measure=>(try rw[HWJ.out]);exact meas_step HJ.out
         ·obtain rfl:j=zs.length:=Nat.le_antisymm hj (Nat.le_of_not_lt hjl);have HOV:Hid (okRow st vs.length hood.length (zs,out)=true):=hid (by rw[HRO.out,HS.out,List.drop_length];rfl);have HD2:Hid ((rs.map Rh.rw_).all (okRow st vs.length hood.length)=((rs.drop (i+1)).map Rh.rw_).all (okRow st vs.length hood.length)):=hid (by rw[HAD.out,HOV.out];rfl);clear hj hjl;go_wp2;go_roundw
          case rel=>exact⟨i+1,HI.out,(by first | rfl | (rw[HWI.out];rfl)),HBB,HD2⟩
          case measure=>(try rw[HWI.out]);exact meas_step HI.out
     ·have q1:((zs.length:Int) != (hood.length:Int))=true:=by simp;omega
      have q1':(zs.length != hood.length)=true:=by simp[e1]
      have HF:Hid (res=false):=hid (HBAD.out (by unfold okRow;dsimp only;rw[decide_eq_false e1];simp));clear e1;go_wp2;go_ret;exact⟨ret_bool HF.out.symm,HBF.out⟩
    ·obtain rfl:i=rs.length:=Nat.le_antisymm hi (Nat.le_of_not_lt hil);have HF:Hid (res=true):=hid (by rw[HRES3.out,HD.out,List.drop_length];rfl);clear hi hil;go_wp2;go_ret;exact⟨ret_bool HF.out.symm,HBE.out.trans (HBW.out.mono HBE.out.size)⟩
def statesB (st:Int)(inn:List Int):Bool:=!inn.any (badS st)
theorem statesB_mem {st:Int}{inn:List Int}(h:statesB st inn=true):∀ s ∈ inn,0≤s∧s < st:=by
 intro s hs;unfold statesB at h;have h2:inn.any (badS st)=false:=by simpa using h
 have h3:=List.any_eq_false.1 h2 s hs;unfold badS at h3;simp at h3;omega
set_option maxHeartbeats 4000000 in
theorem stc_any (g:Nat)(st:Int)(s:Int)(w:World)(c0:w.cell? ⟨g,0,none⟩=some (.int .i64 st)) :
  Calls Tryz.prog 74 #[.int .i64 s,.pointer (some ⟨g,0,none⟩)] w fun e w'=>e=.returned (.bool (badS st s))∧w'=w:=by
 obtain⟨r,hr⟩:∃ r,r=badS st s:=⟨_,rfl⟩
 rw[← hr];have HR:=hid hr;clear hr;by_cases h1:s < 0
 ·have d1:decide (s < 0)=true:=decide_eq_true h1;have HE:Hid (r=true):=hid (by rw[HR.out];unfold badS;rw[d1];rfl);clear h1;go_enter Tryz.func74,Tryz.ntmps74;go_wp2;go_ret;exact⟨ret_bool HE.out.symm,rfl⟩
 ·have d1:decide (s < 0)=false:=decide_eq_false h1;have HE:Hid (r=decide (st≤s)):=hid (by rw[HR.out];unfold badS;rw[d1];rfl);clear h1;go_enter Tryz.func74,Tryz.ntmps74;go_wp2;go_ret;exact⟨ret_bool HE.out.symm,rfl⟩
set_option maxHeartbeats 2000000 in
theorem ixS_any (g:Nat)(st:Int)(A:Option Addr)(c:Nat)(zs:List Int)(w:World)(c0:w.cell? ⟨g,0,none⟩=some (.int .i64 st))(hz:Ints w A zs) :
  Calls Tryz.prog 110 #[.slice A zs.length c,.func (.func 74) #[] #[.pointer (some ⟨g,0,none⟩)]] w fun e w'=>e=.returned (.int .i64 (fI (badS st) zs 0))∧w'=w:=by
 have hn:=hz.le;have HZ:=hid hz;have HQ:=hid c0;have HN:=hid hn;clear hz c0 hn;go_enter Tryz.func110,Tryz.ntmps110;go_wp2;go_loopw [8] (fun i wr=>∃ k:Nat,k≤zs.length∧i=.int .i64 k∧wr=w∧Hid (fI (badS st) zs 0=fI (badS st) (zs.drop k) k)) (fun i _=>zs.length - (intOf i).toNat)
 case atStart=>exact⟨0,Nat.zero_le _,rfl,rfl,hid (by simp)⟩
 case round=>
  obtain⟨k,hk,rfl,rfl,HT⟩:=hrel;by_cases hlt:k < zs.length
  ·obtain⟨b1,o1,e1,-,hc⟩:=HZ.out.at_ hlt;have hw1:wrap64 ((k:Int)+1)=(k:Int)+1:=by have:=HN.out;unfold wrap64;omega
   have HS:=hid (fI_step (badS st) hlt);have hC:=stc_any g st zs[k] wr HQ.out;obtain⟨z,hz⟩:∃ z,z=zs[k]:=⟨_,rfl⟩
   rw[← hz] at hc HS hC;have HLT:=hid hlt;subst e1;cases hp:badS st z with
   | true=>
    rw[hp] at hC;have HC:=hid hC;have HF:Hid (fI (badS st) zs 0=(k:Int)):=hid (by rw[HT.out,HS.out,hp];rfl);clear hp hC hz hk;go_wp2_with (go_at_call 74;refine HC.out.mono ?_;rintro e w1 ⟨rfl,rfl⟩);go_ret;exact⟨by rw[HF.out] <;> rfl,rfl⟩
   | false=>
    rw[hp] at hC;have HC:=hid hC;have HF:Hid (fI (badS st) zs 0=fI (badS st) (zs.drop (k+1)) (k+1)):=hid (by rw[HT.out,HS.out,hp];rfl);clear hp hC hz hk;go_wp2_with (go_at_call 74;refine HC.out.mono ?_;rintro e w1 ⟨rfl,rfl⟩);go_roundw
    case rel=>exact⟨k+1,HLT.out,(by first | rfl | (rw[hw1];rfl)),(by first | rfl | trivial),HF⟩
    case measure=>have:=HLT.out;first | (rw[hw1];simp[intOf];omega) | (simp[intOf];omega)
  ·have HF:Hid (fI (badS st) zs 0 = -1):=hid (by
    have h:=HT.out;rw[List.drop_of_length_le (by omega)] at h;exact h)
   go_wp2;go_ret;exact⟨by rw[HF.out] <;> rfl,rfl⟩
set_option maxHeartbeats 1000000 in
theorem ctS_any (g:Nat)(st:Int)(A:Option Addr)(c:Nat)(zs:List Int)(w:World)(c0:w.cell? ⟨g,0,none⟩=some (.int .i64 st))(hz:Ints w A zs) :
  Calls Tryz.prog 73 #[.slice A zs.length c,.func (.func 74) #[] #[.pointer (some ⟨g,0,none⟩)]] w fun e w'=>e=.returned (.bool (zs.any (badS st)))∧w'=w:=by
 have HC:=hid (ixS_any g st A c zs w c0 hz);rw[← fI_any (badS st) zs 0];obtain⟨r,hr⟩:∃ r,r=fI (badS st) zs 0:=⟨_,rfl⟩
 rw[← hr] at HC ⊢;clear hr c0 hz;go_enter Tryz.func73,Tryz.ntmps73;go_wp2_with (go_at_call 110;refine HC.out.mono ?_;rintro e w1 ⟨rfl,rfl⟩);go_ret;exact⟨rfl,rfl⟩
set_option maxHeartbeats 2000000 in
theorem states_any (hA:Option Addr)(hc:Nat)(vA:Option Addr)(vc:Nat)(rA:Option Addr)(rc:Nat)(t:TabH)(iA:Option Addr)(ic:Nat)(inn:List Int)(w:World)(hi:Ints w iA inn) :
  Calls Tryz.prog 41 #[tabV hA hc vA vc rA rc t,.slice iA inn.length ic] w fun e w'=>e=.returned (.bool (statesB t.st inn))∧Below w.heap.size w w':=by
 obtain⟨st,sym,hood,vs,rs⟩:=t;unfold tabV;dsimp only;obtain⟨w0,hw0⟩:∃ w0,w0=w.alloc (.cells #[.int .i64 st,.int .i64 sym,.slice hA hood.length hc,.slice vA vs.length vc,.slice rA rs.length rc] 26):=⟨_,rfl⟩
 have hb0:Below w.heap.size w w0:=by rw[hw0];exact below_new _ _
 have p0:Blk w0 w.heap.size 26 #[.int .i64 st,.int .i64 sym,.slice hA hood.length hc,.slice vA vs.length vc,.slice rA rs.length rc]:=by rw[hw0];exact Blk.new _ _ _
 obtain⟨gT,hgT⟩:∃ g,g=w.heap.size:=⟨_,rfl⟩
 rw[← hgT] at p0;have HC:=hid (ctS_any gT st iA ic inn w0 (p0.cell_ 0 (.int .i64 st) rfl) (hi.ext hb0));have HB0:=hid hb0;have HW0:=hid (And.intro hw0 hgT);obtain⟨r,hr⟩:∃ r,r=inn.any (badS st):=⟨_,rfl⟩
 have HE:Hid (statesB st inn = !r):=hid (by rw[hr];rfl);rw[← hr] at HC;clear hb0 p0 hw0 hgT hi hr;go_enter Tryz.func41,Tryz.ntmps41;go_upto_region 1 with fail
 rw[← HW0.out.1,← HW0.out.2];go_wp2_with (go_at_call 73;refine HC.out.mono ?_;rintro e w1 ⟨rfl,rfl⟩;refine Hid.out ?_);refine hid ?_;go_wp2;go_ret;exact⟨ret_bool HE.out.symm,HB0.out⟩
end Go.Proofs.YtcmbdhopmncmnaaGreatDoor
namespace Go.Proofs.YtcmbdhopmncmnaaGreatDoor
open Lib(hid)
open Go.RowKit Go.Sort
set_option maxRecDepth 100000
set_option linter.unusedVariables false
set_option linter.unusedSimpArgs false
def rowD (t:TabL)(inn:List Int)(r:Rw):Int × Bool:=decideP t.sym t.hood t.vars r.1 r.2 inn
def firstD (t:TabL)(inn:List Int):List Rw→Option Int
 | []=>none
 | r :: l=>if (rowD t inn r).2=true then some (rowD t inn r).1 else firstD t inn l
def valT (t:TabL)(inn:List Int):Int:=match firstD t inn t.rows with
 | some s=>s
 | none=>if 0≤ctrP t.hood then inn.getD (ctrP t.hood).toNat 0 else 0
def nextT (t:TabL)(inn:List Int):Int × Int:=
 if rightTab t=false∨inn.length≠t.hood.length then (0,2) else if statesB t.st inn=false then (0,10) else (valT t inn,0)
def matchT (t:TabL)(row:Int)(inn:List Int):Int × Bool:=
 if rightTab t=false∨row < 0∨(t.rows.length:Int)≤row∨inn.length≠t.hood.length∨statesB t.st inn=false then (0,false) else rowD t inn (t.rows.getD row.toNat ([],0))
theorem rightTab_parts {t:TabL}(h:rightTab t=true):(2≤t.st∧t.st≤8)∧hoodB t.hood=true∧permP t.hood t.sym=true∧t.vars.length≤40∧t.rows.length≤400∧(∀ l ∈ t.vars,okVar t.st l=true)∧(∀ r ∈ t.rows,okRow t.st t.vars.length t.hood.length r=true):=by
 unfold rightTab headTab at h;simp only[Bool.and_eq_true,decide_eq_true_eq] at h;obtain⟨⟨⟨⟨⟨⟨⟨h1,h2⟩,h3⟩,h4⟩,h5⟩,h6⟩,h7⟩,h8⟩:=h;exact⟨⟨h1,h2⟩,h3,h4,h5,h6,fun l hl=>List.all_eq_true.1 h7 l hl,fun r hr=>List.all_eq_true.1 h8 r hr⟩
theorem elB_ok {st:Int}{nv:Nat}{e:Int}(hn:nv≤40)(h:elB st nv e=true):ElOk nv e:=by
 unfold elB at h;simp only[Bool.and_eq_true,decide_eq_true_eq] at h;exact⟨fun h0=>by omega,by omega⟩
theorem okRow_parts {st:Int}{nv nh:Nat}{r:Rw}(hn:nv≤40)(h:okRow st nv nh r=true):r.1.length=nh∧ElOk nv r.2∧∀ e ∈ r.1,ElOk nv e:=by
 unfold okRow at h;simp only[Bool.and_eq_true,decide_eq_true_eq] at h;obtain⟨⟨⟨h1,h2⟩,h3⟩,h4⟩:=h;exact⟨h1,elB_ok hn h2,fun e he=>elB_ok hn (List.all_eq_true.1 h4 e he)⟩
theorem decR_of {w:World}{hA vA rA:Option Addr}{t:TabH}{iA:Option Addr}{inn:List Int}(hT:TabR w hA vA rA t)(hG:GMat w)(hr:rightTab t.tab=true)(hi:Ints w iA inn)(hl:inn.length=t.hood.length){i:Nat}(h:i < t.rs.length):DecR w hA vA t t.rs[i].A t.rs[i].zs t.rs[i].out iA inn:=by
 obtain⟨h1,h2,h3,h4,h5,h6,h7⟩:=rightTab_parts hr;have hv:t.tab.vars.length=t.vs.length:=by unfold TabH.tab;simp
 rw[hv] at h4;have hm:t.rs[i].rw_ ∈ t.tab.rows:=by
  unfold TabH.tab;exact List.mem_map.2 ⟨t.rs[i],List.getElem_mem h,rfl⟩
 obtain⟨k1,k2,k3⟩:=okRow_parts (by rw[hv];exact h4) (h7 _ hm);rw[hv] at k2 k3;obtain⟨b,o,e,-,-,-,hz⟩:=hT.rows.at_ h;exact⟨hT.hood,h2,h3,hT.vars,h4,hG,hz,hi,k1,hl,k3,k2⟩
theorem idxF_lt15 {α:Type} [DecidableEq α] {p:α}:∀ (xs:List α)(k:Nat),idxF p k xs < 0∨(0≤idxF p k xs∧(idxF p k xs).toNat < k+xs.length)
 | [],k=>by simp[idxF]
 | x :: l,k=>by
  unfold idxF;by_cases h:x=p
  ·rw[if_pos h];right;constructor <;> simp
  ·rw[if_neg h];rcases idxF_lt15 l (k+1) with h1 | ⟨h1,h2⟩
   ·exact .inl h1
   ·refine .inr ⟨h1,?_⟩;rw[List.length_cons];omega
theorem ctr_lt15 (ps:List (Int × Int)):ctrP ps < 0∨(0≤ctrP ps∧(ctrP ps).toNat < ps.length):=by
 unfold ctrP
 split
 ·have:=idxF_lt15 (p:=((0,0):Int × Int)) ps 0;simpa using this
 ·exact .inl (by decide)
set_option maxHeartbeats 16000000 in
theorem next_any (hA:Option Addr)(hc:Nat)(vA:Option Addr)(vc:Nat)(rA:Option Addr)(rc:Nat)(t:TabH)(iA:Option Addr)(ic:Nat)(inn:List Int)(w:World)(hT:TabR w hA vA rA t)(hG:GMat w)(hi:Ints w iA inn)(hs:t.sym≠3∨PermOK) :
  Calls Tryz.prog 16 #[tabV hA hc vA vc rA rc t,.slice iA inn.length ic] w fun en w'=>en=.returned (.tuple #[.int .i64 (nextT t.tab inn).1,.int .i64 (nextT t.tab inn).2])∧Below w.heap.size w w':=by
 obtain⟨w0,hw0⟩:∃ w0,w0=w.alloc (.cells #[.int .i64 t.st,.int .i64 t.sym,.slice hA t.hood.length hc,.slice vA t.vs.length vc,.slice rA t.rs.length rc] 26):=⟨_,rfl⟩
 have hb0:Below w.heap.size w w0:=by rw[hw0];exact below_new _ _
 have p0:Blk w0 w.heap.size 26 #[.int .i64 t.st,.int .i64 t.sym,.slice hA t.hood.length hc,.slice vA t.vs.length vc,.slice rA t.rs.length rc]:=by rw[hw0];exact Blk.new _ _ _
 obtain⟨gT,hgT⟩:∃ g,g=w.heap.size:=⟨_,rfl⟩
 rw[← hgT] at p0;have hcr:=rright15_any hA hc vA vc rA rc t w0 (hT.ext hb0) (hG.ext hb0);have HST:Hid (∀ W,Below w0.heap.size w0 W→Calls Tryz.prog 41 #[tabV hA hc vA vc rA rc t,.slice iA inn.length ic] W fun e w'=>e=.returned (.bool (statesB t.st inn))∧Below W.heap.size W w'):=hid (fun W hW=>states_any hA hc vA vc rA rc t iA ic inn W ((hi.ext hb0).ext hW));have HDEC:Hid (rightTab t.tab=true→inn.length=t.hood.length→statesB t.st inn=true→∀ (i:Nat) (h:i < t.rs.length) (zc:Nat) (W:World),Below w0.heap.size w0 W→Calls Tryz.prog 42 #[tabV hA hc vA vc rA rc t,.agg #[.slice t.rs[i].A t.rs[i].zs.length t.rs[i].c,.int .i64 t.rs[i].out],.slice iA inn.length ic] W fun en w'=>en=.returned (.tuple #[.int .i64 (rowD t.tab inn t.rs[i].rw_).1,.bool (rowD t.tab inn t.rs[i].rw_).2])∧Below W.heap.size W w'):=hid (fun hr hl hst i h zc W hW=>
  decide_any hA hc vA vc rA rc t t.rs[i].A t.rs[i].c t.rs[i].zs t.rs[i].out iA ic inn W ((decR_of (hT.ext hb0) (hG.ext hb0) hr (hi.ext hb0) hl h).ext hW) (fun s hs'=>by have h1:=statesB_mem hst s hs';have h2:=(rightTab_parts hr).1.2;have h3:t.tab.st=t.st:=rfl;omega) hs)
 have HCT:Hid (∀ W,Below w0.heap.size w0 W→Calls Tryz.prog 45 #[.slice hA t.hood.length hc] W fun e w'=>e=.returned (.int .i64 (ctrP t.hood))∧Below W.heap.size W w'):=hid (fun W hW=>centre_any hA t.hood hc W ((hT.hood.ext hb0).ext hW));have HCL:=hid (ctr_lt15 t.hood);have HRW:=hid ((hT.ext hb0).rows);have HIN:=hid (hi.ext hb0);have HB0:=hid hb0;have HP:=hid p0;have HW0:=hid (And.intro hw0 hgT);have hi9:inn.length≤9223372036854775807:=hi.le;have hh9:t.hood.length≤9223372036854775807:=hT.hood.le;have hr9:t.rs.length≤9223372036854775807:=hT.rows.le;have htab:t.tab.hood=t.hood∧t.tab.st=t.st∧t.tab.rows=t.rs.map Rh.rw_:=⟨rfl,rfl,rfl⟩
 obtain⟨TL,hTL⟩:∃ x,x=t.tab:=⟨_,rfl⟩
 rw[← hTL] at htab hcr HDEC ⊢;have HTB:=hid htab;obtain⟨st,sym,hood,vs,rs⟩:=t;unfold tabV at hcr HST HDEC ⊢;dsimp only at hcr HST HDEC HCT HCL HRW HP HW0 HTB hh9 hr9 ⊢;have HCR:=hid hcr;obtain⟨n1,hn1⟩:∃ n,n=(nextT TL inn).1:=⟨_,rfl⟩
 obtain⟨n2,hn2⟩:∃ n,n=(nextT TL inn).2:=⟨_,rfl⟩
 rw[← hn1,← hn2];have HN:Hid (nextT TL inn=(n1,n2)):=hid (by rw[hn1,hn2]);have x0:=HP.out.cell_ 0 (.int .i64 st) rfl;have x1:=HP.out.cell_ 1 (.int .i64 sym) rfl;have x2:=HP.out.cell_ 2 (.slice hA hood.length hc) rfl;have x3:=HP.out.cell_ 3 (.slice vA vs.length vc) rfl;have x4:=HP.out.cell_ 4 (.slice rA rs.length rc) rfl;clear hb0 p0 hw0 hgT hT hG hi hs htab hTL hcr hn1 hn2;cases hrt:rightTab TL with
 | false=>
  have HE:Hid (n1=0∧n2=2):=hid (by
   have h:=HN.out;unfold nextT at h;rw[if_pos (Or.inl hrt)] at h;injection h with h1 h2
   exact⟨h1.symm,h2.symm⟩)
  rw[hrt] at HCR;clear hrt;go_enter Tryz.func16,Tryz.ntmps16;go_upto_region 1 with fail
  rw[← HW0.out.1,← HW0.out.2];go_wp2_with (go_at_call 10;refine HCR.out.mono ?_;rintro e w1 ⟨rfl,hb1⟩;refine Hid.out ?_);refine hid ?_;have HB1:=hid hb1;have HP1:=hid (HP.out.below hb1 HP.out.lt);clear hb1 x0 x1 x2 x3 x4;have x0:=HP1.out.cell_ 0 (.int .i64 st) rfl;have x1:=HP1.out.cell_ 1 (.int .i64 sym) rfl;have x2:=HP1.out.cell_ 2 (.slice hA hood.length hc) rfl;have x3:=HP1.out.cell_ 3 (.slice vA vs.length vc) rfl;have x4:=HP1.out.cell_ 4 (.slice rA rs.length rc) rfl;go_wp2;go_ret2;exact⟨(by first | (rw[HE.out.1,HE.out.2];done) | (rw[HE.out.1,HE.out.2];rfl)),HB0.out.trans (HB1.out.mono HB0.out.size)⟩
 | true=>
 have HRT:=hid hrt;rw[hrt] at HCR;clear hrt;by_cases hl:inn.length=hood.length
 case neg=>
  have d1:((inn.length:Int) != (hood.length:Int))=true:=by simp;omega
  have d1':(inn.length != hood.length)=true:=by simp[hl]
  have HE:Hid (n1=0∧n2=2):=hid (by
   have h:=HN.out;unfold nextT at h;rw[if_pos (Or.inr (by rw[HTB.out.1];exact hl))] at h;injection h with h1 h2
   exact⟨h1.symm,h2.symm⟩)
  clear hl;go_enter Tryz.func16,Tryz.ntmps16;go_upto_region 1 with fail
  rw[← HW0.out.1,← HW0.out.2];go_wp2_with (go_at_call 10;refine HCR.out.mono ?_;rintro e w1 ⟨rfl,hb1⟩;refine Hid.out ?_);refine hid ?_;have HB1:=hid hb1;have HP1:=hid (HP.out.below hb1 HP.out.lt);clear hb1 x0 x1 x2 x3 x4;have x0:=HP1.out.cell_ 0 (.int .i64 st) rfl;have x1:=HP1.out.cell_ 1 (.int .i64 sym) rfl;have x2:=HP1.out.cell_ 2 (.slice hA hood.length hc) rfl;have x3:=HP1.out.cell_ 3 (.slice vA vs.length vc) rfl;have x4:=HP1.out.cell_ 4 (.slice rA rs.length rc) rfl;go_wp2;go_ret2;exact⟨(by first | (rw[HE.out.1,HE.out.2];done) | (rw[HE.out.1,HE.out.2];rfl)),HB0.out.trans (HB1.out.mono HB0.out.size)⟩
 case pos=>
 have d1:((inn.length:Int) != (hood.length:Int))=false:=by simp[hl]
 have d1':(inn.length != hood.length)=false:=by simp[hl]
 have HL:=hid hl;clear hl;cases hss:statesB st inn with
 | false=>
  have HE:Hid (n1=0∧n2=10):=hid (by
   have h:=HN.out;unfold nextT at h;rw[if_neg (by rintro (h | h);rw[HRT.out] at h;cases h;exact h (by rw[HTB.out.1];exact HL.out)),if_pos (by rw[HTB.out.2.1];exact hss)] at h;injection h with h1 h2
   exact⟨h1.symm,h2.symm⟩)
  rw[hss] at HST;clear hss;go_enter Tryz.func16,Tryz.ntmps16;go_upto_region 1 with fail
  rw[← HW0.out.1,← HW0.out.2];go_wp2_with (go_at_call 10;refine HCR.out.mono ?_;rintro e w1 ⟨rfl,hb1⟩;refine Hid.out ?_);refine hid ?_;have HB1:=hid hb1;have HP1:=hid (HP.out.below hb1 HP.out.lt);clear hb1 x0 x1 x2 x3 x4;have x0:=HP1.out.cell_ 0 (.int .i64 st) rfl;have x1:=HP1.out.cell_ 1 (.int .i64 sym) rfl;have x2:=HP1.out.cell_ 2 (.slice hA hood.length hc) rfl;have x3:=HP1.out.cell_ 3 (.slice vA vs.length vc) rfl;have x4:=HP1.out.cell_ 4 (.slice rA rs.length rc) rfl;have HCQ:=hid (HST.out w1 HB1.out);go_wp2_with (go_at_call 41;refine HCQ.out.mono ?_;rintro e w2 ⟨rfl,hb2⟩;refine Hid.out ?_);refine hid ?_;have HB2:=hid (HB1.out.trans (hb2.mono HB1.out.size));have HP2:=hid (HP.out.below HB2.out HP.out.lt);clear hb2 x0 x1 x2 x3 x4;have x0:=HP2.out.cell_ 0 (.int .i64 st) rfl;have x1:=HP2.out.cell_ 1 (.int .i64 sym) rfl;have x2:=HP2.out.cell_ 2 (.slice hA hood.length hc) rfl;have x3:=HP2.out.cell_ 3 (.slice vA vs.length vc) rfl;have x4:=HP2.out.cell_ 4 (.slice rA rs.length rc) rfl;go_wp2;go_ret2;exact⟨(by first | (rw[HE.out.1,HE.out.2];done) | (rw[HE.out.1,HE.out.2];rfl)),HB0.out.trans (HB2.out.mono HB0.out.size)⟩
 | true=>
 have HSS:=hid hss;rw[hss] at HST;have HE:Hid (n1=valT TL inn∧n2=0):=hid (by
  have h:=HN.out;unfold nextT at h;rw[if_neg (by rintro (h | h);rw[HRT.out] at h;cases h;exact h (by rw[HTB.out.1];exact HL.out)),if_neg (by rw[HTB.out.2.1,hss];simp)] at h;injection h with h1 h2
  exact⟨h1.symm,h2.symm⟩)
 clear hss;have HD2:=hid (HDEC.out HRT.out HL.out HSS.out);clear HDEC;go_enter Tryz.func16,Tryz.ntmps16;go_upto_region 1 with fail
 rw[← HW0.out.1,← HW0.out.2];go_wp2_with (go_at_call 10;refine HCR.out.mono ?_;rintro e w1 ⟨rfl,hb1⟩;refine Hid.out ?_);refine hid ?_;have HB1:=hid hb1;have HP1:=hid (HP.out.below hb1 HP.out.lt);clear hb1 x0 x1 x2 x3 x4;have x0:=HP1.out.cell_ 0 (.int .i64 st) rfl;have x1:=HP1.out.cell_ 1 (.int .i64 sym) rfl;have x2:=HP1.out.cell_ 2 (.slice hA hood.length hc) rfl;have x3:=HP1.out.cell_ 3 (.slice vA vs.length vc) rfl;have x4:=HP1.out.cell_ 4 (.slice rA rs.length rc) rfl;have HCQ:=hid (HST.out w1 HB1.out);go_wp2_with (go_at_call 41;refine HCQ.out.mono ?_;rintro e w2 ⟨rfl,hb2⟩;refine Hid.out ?_);refine hid ?_;have HB2:=hid (HB1.out.trans (hb2.mono HB1.out.size));have HP2:=hid (HP.out.below HB2.out HP.out.lt);clear hb2 x0 x1 x2 x3 x4;have x0:=HP2.out.cell_ 0 (.int .i64 st) rfl;have x1:=HP2.out.cell_ 1 (.int .i64 sym) rfl;have x2:=HP2.out.cell_ 2 (.slice hA hood.length hc) rfl;have x3:=HP2.out.cell_ 3 (.slice vA vs.length vc) rfl;have x4:=HP2.out.cell_ 4 (.slice rA rs.length rc) rfl;go_upto_region 6 with fail
 clear x0 x1 x2 x3 x4 d1 d1';have HBE:=hid (HB0.out.trans (HB2.out.mono HB0.out.size));clear HB1;go_loopw [29] (fun iv wr=>∃ i:Nat,i≤rs.length∧iv=.int .i64 i∧Hid (Below w0.heap.size w0 wr)∧Hid (firstD TL inn TL.rows=firstD TL inn ((rs.drop i).map Rh.rw_))) (fun iv _=>rs.length - (intOf iv).toNat)
 case atStart=>exact⟨0,Nat.zero_le _,rfl,HB2,hid (by rw[HTB.out.2.2];rfl)⟩
 case round=>
  obtain⟨i,hi,rfl,HBW,HD⟩:=hrel;by_cases hil:i < rs.length
  ·obtain⟨rb,ro,ea,-,hca,hda,hia⟩:=(HRW.out.ext HBW.out).at_ hil;have hAD:firstD TL inn TL.rows=if (rowD TL inn rs[i].rw_).2=true then some (rowD TL inn rs[i].rw_).1 else firstD TL inn ((rs.drop (i+1)).map Rh.rw_):=by
    rw[HD.out,List.drop_eq_getElem_cons hil];rfl
   have HDI:=hid (HD2.out i hil 0);obtain⟨xh,hxh⟩:∃ z,z=rs[i]:=⟨_,rfl⟩
   rw[← hxh] at hca hda hia hAD HDI;obtain⟨xA,xc,zs,out⟩:=xh;obtain⟨rd,hrd⟩:∃ r,r=rowD TL inn (Rh.rw_ ⟨xA,xc,zs,out⟩):=⟨_,rfl⟩
   rw[← hrd] at hAD HDI;obtain⟨r1,r2⟩:=rd;dsimp only at hca hda hia hAD ea HDI;have HAD:=hid hAD;have HI:=hid hil;have hwi:wrap64 ((i:Int)+1)=(i:Int)+1:=by unfold wrap64;omega
   have HWI:=hid hwi;obtain⟨wb,hwb⟩:∃ W,W=wr.alloc (.cells #[.slice xA zs.length xc,.int .i64 out] 48):=⟨_,rfl⟩
   have hbb:Below wr.heap.size wr wb:=by rw[hwb];exact below_new _ _
   obtain⟨gR,hgR⟩:∃ g,g=wr.heap.size:=⟨_,rfl⟩
   have HRB:Hid (Blk wb gR 48 #[.slice xA zs.length xc,.int .i64 out]):=hid (by rw[hgR,hwb];exact Blk.new _ _ _);have HBB:=hid (HBW.out.trans (hbb.mono HBW.out.size));have HWB:=hid (And.intro hwb hgR);have HPB:=hid (HP.out.below HBB.out HP.out.lt);have HDW:=hid (HDI.out wb HBB.out);have r0:=HRB.out.cell_ 0 (.slice xA zs.length xc) rfl;have r1':=HRB.out.cell_ 1 (.int .i64 out) rfl;subst ea;have x0:=HPB.out.cell_ 0 (.int .i64 st) rfl;have x1:=HPB.out.cell_ 1 (.int .i64 sym) rfl;have x2:=HPB.out.cell_ 2 (.slice hA hood.length hc) rfl;have x3:=HPB.out.cell_ 3 (.slice vA vs.length vc) rfl;have x4:=HPB.out.cell_ 4 (.slice (some ⟨rb,ro,none⟩) rs.length rc) rfl;clear hAD hxh hia hi hwi hwb hgR hbb hrd;go_upto_region 8 with fail
   rw[← HWB.out.1,← HWB.out.2];clear hca hda;go_wp2_with (go_at_call 42;refine HDW.out.mono ?_;rintro e w5 ⟨rfl,hb5⟩;refine Hid.out ?_);refine hid ?_;have HB5:=hid (HBB.out.trans (hb5.mono HBB.out.size));clear hb5 x0 x1 x2 x3 x4 r0 r1';cases r2 with
   | true=>
    have HF:Hid (n1=r1):=hid (by rw[HE.out.1];unfold valT;rw[HAD.out];rfl);go_wp2;go_ret2;exact⟨(by first | (rw[HF.out,HE.out.2];done) | (rw[HF.out,HE.out.2];rfl)),HB0.out.trans (HB5.out.mono HB0.out.size)⟩
   | false=>
    have HS2:Hid (firstD TL inn TL.rows=firstD TL inn ((rs.drop (i+1)).map Rh.rw_)):=hid (by rw[HAD.out];rfl);go_wp2;go_roundw
    case rel=>exact⟨i+1,HI.out,(by first | rfl | (rw[HWI.out];rfl)),HB5,HS2⟩
    case measure=>(try rw[HWI.out]);exact meas_step HI.out
  ·obtain rfl:i=rs.length:=Nat.le_antisymm hi (Nat.le_of_not_lt hil);have HVT:Hid (n1=if 0≤ctrP hood then inn.getD (ctrP hood).toNat 0 else 0):=hid (by
    rw[HE.out.1];unfold valT;rw[HD.out,List.drop_length,← HTB.out.1];rfl)
   have HCC:=hid (HCT.out wr HBW.out);have c2:=(HP.out.below HBW.out HP.out.lt).cell_ 2 (.slice hA hood.length hc) rfl;obtain⟨cv,hcv⟩:∃ c,c=ctrP hood:=⟨_,rfl⟩
   rw[← hcv] at HVT HCC HCL;clear hi hil hcv;go_wp2_with (go_at_call 45;refine HCC.out.mono ?_;rintro e w5 ⟨rfl,hb5⟩;refine Hid.out ?_);refine hid ?_;have HB5:=hid (HBW.out.trans (hb5.mono HBW.out.size));clear hb5 c2;by_cases hcn:0≤cv
   ·have dc:decide (0≤cv)=true:=decide_eq_true hcn;obtain⟨cn,hcc⟩:∃ cn:Nat,cv=(cn:Int):=⟨cv.toNat,by omega⟩
    subst hcc;have hcl:cn < inn.length:=by
     rcases HCL.out with h | ⟨-,h⟩
     ·omega
     ·rw[Int.toNat_natCast] at h;have:=HL.out;omega
    obtain⟨ib,io,ei,-,xz⟩:=(HIN.out.ext HB5.out).at_ hcl;obtain⟨z,hz⟩:∃ z,z=inn[cn]:=⟨_,rfl⟩
    rw[← hz] at xz;have HZ:Hid (n1=z):=hid (by rw[HVT.out,if_pos hcn,Int.toNat_natCast,hz,List.getD_eq_getElem?_getD,List.getElem?_eq_getElem hcl];rfl);subst ei;clear hz hcn;go_wp2;go_ret2;exact⟨(by first | (rw[HZ.out,HE.out.2];done) | (rw[HZ.out,HE.out.2];rfl)),HB0.out.trans (HB5.out.mono HB0.out.size)⟩
   ·have dc:decide (0≤cv)=false:=decide_eq_false hcn;have HZ:Hid (n1=0):=hid (by rw[HVT.out,if_neg hcn]);clear hcn;go_wp2;go_ret2;exact⟨(by first | (rw[HZ.out,HE.out.2];done) | (rw[HZ.out,HE.out.2];rfl)),HB0.out.trans (HB5.out.mono HB0.out.size)⟩
set_option maxHeartbeats 16000000 in
theorem match_any (hA:Option Addr)(hc:Nat)(vA:Option Addr)(vc:Nat)(rA:Option Addr)(rc:Nat)(t:TabH)(row:Int)(iA:Option Addr)(ic:Nat)(inn:List Int)(w:World)(hT:TabR w hA vA rA t)(hG:GMat w)(hi:Ints w iA inn)(hs:t.sym≠3∨PermOK) :
  Calls Tryz.prog 14 #[tabV hA hc vA vc rA rc t,.int .i64 row,.slice iA inn.length ic] w fun en w'=>en=.returned (.tuple #[.int .i64 (matchT t.tab row inn).1,.bool (matchT t.tab row inn).2])∧Below w.heap.size w w':=by
 obtain⟨w0,hw0⟩:∃ w0,w0=w.alloc (.cells #[.int .i64 t.st,.int .i64 t.sym,.slice hA t.hood.length hc,.slice vA t.vs.length vc,.slice rA t.rs.length rc] 26):=⟨_,rfl⟩
 have hb0:Below w.heap.size w w0:=by rw[hw0];exact below_new _ _
 have p0:Blk w0 w.heap.size 26 #[.int .i64 t.st,.int .i64 t.sym,.slice hA t.hood.length hc,.slice vA t.vs.length vc,.slice rA t.rs.length rc]:=by rw[hw0];exact Blk.new _ _ _
 obtain⟨gT,hgT⟩:∃ g,g=w.heap.size:=⟨_,rfl⟩
 rw[← hgT] at p0;have hcr:=rright15_any hA hc vA vc rA rc t w0 (hT.ext hb0) (hG.ext hb0);have HST:Hid (∀ W,Below w0.heap.size w0 W→Calls Tryz.prog 41 #[tabV hA hc vA vc rA rc t,.slice iA inn.length ic] W fun e w'=>e=.returned (.bool (statesB t.st inn))∧Below W.heap.size W w'):=hid (fun W hW=>states_any hA hc vA vc rA rc t iA ic inn W ((hi.ext hb0).ext hW));have HDEC:Hid (rightTab t.tab=true→inn.length=t.hood.length→statesB t.st inn=true→∀ (i:Nat) (h:i < t.rs.length) (W:World),Below w0.heap.size w0 W→Calls Tryz.prog 42 #[tabV hA hc vA vc rA rc t,.agg #[.slice t.rs[i].A t.rs[i].zs.length t.rs[i].c,.int .i64 t.rs[i].out],.slice iA inn.length ic] W fun en w'=>en=.returned (.tuple #[.int .i64 (rowD t.tab inn t.rs[i].rw_).1,.bool (rowD t.tab inn t.rs[i].rw_).2])∧Below W.heap.size W w'):=hid (fun hr hl hst i h W hW=>
  decide_any hA hc vA vc rA rc t t.rs[i].A t.rs[i].c t.rs[i].zs t.rs[i].out iA ic inn W ((decR_of (hT.ext hb0) (hG.ext hb0) hr (hi.ext hb0) hl h).ext hW) (fun s hs'=>by have h1:=statesB_mem hst s hs';have h2:=(rightTab_parts hr).1.2;have h3:t.tab.st=t.st:=rfl;omega) hs)
 have HRW:=hid ((hT.ext hb0).rows);have HB0:=hid hb0;have HP:=hid p0;have HW0:=hid (And.intro hw0 hgT);have hi9:inn.length≤9223372036854775807:=hi.le;have hh9:t.hood.length≤9223372036854775807:=hT.hood.le;have hr9:t.rs.length≤9223372036854775807:=hT.rows.le;have htab:t.tab.hood=t.hood∧t.tab.st=t.st∧t.tab.rows=t.rs.map Rh.rw_:=⟨rfl,rfl,rfl⟩
 obtain⟨TL,hTL⟩:∃ x,x=t.tab:=⟨_,rfl⟩
 rw[← hTL] at htab hcr HDEC ⊢;have HTB:=hid htab;obtain⟨st,sym,hood,vs,rs⟩:=t;unfold tabV at hcr HST HDEC ⊢;dsimp only at hcr HST HDEC HRW HP HW0 HTB hh9 hr9 ⊢;have HCR:=hid hcr;obtain⟨n1,hn1⟩:∃ n,n=(matchT TL row inn).1:=⟨_,rfl⟩
 obtain⟨n2,hn2⟩:∃ n,n=(matchT TL row inn).2:=⟨_,rfl⟩
 rw[← hn1,← hn2];have HN:Hid (matchT TL row inn=(n1,n2)):=hid (by rw[hn1,hn2]);have HNO:Hid ((rightTab TL=false∨row < 0∨(TL.rows.length:Int)≤row∨inn.length≠TL.hood.length∨statesB TL.st inn=false)→n1=0∧n2=false):=hid (fun hc=>by
  have h:=HN.out;unfold matchT at h;rw[if_pos hc] at h;injection h with h1 h2
  exact⟨h1.symm,h2.symm⟩)
 have x0:=HP.out.cell_ 0 (.int .i64 st) rfl;have x1:=HP.out.cell_ 1 (.int .i64 sym) rfl;have x2:=HP.out.cell_ 2 (.slice hA hood.length hc) rfl;have x3:=HP.out.cell_ 3 (.slice vA vs.length vc) rfl;have x4:=HP.out.cell_ 4 (.slice rA rs.length rc) rfl;clear hb0 p0 hw0 hgT hT hG hi hs htab hTL hcr hn1 hn2;cases hrt:rightTab TL with
 | false=>
  have HE:=hid (HNO.out (Or.inl hrt));rw[hrt] at HCR;clear hrt;go_enter Tryz.func14,Tryz.ntmps14;go_upto_region 1 with fail
  rw[← HW0.out.1,← HW0.out.2];go_wp2_with (go_at_call 10;refine HCR.out.mono ?_;rintro e w1 ⟨rfl,hb1⟩;refine Hid.out ?_);refine hid ?_;have HB1:=hid hb1;have HP1:=hid (HP.out.below hb1 HP.out.lt);clear hb1 x0 x1 x2 x3 x4;have x0:=HP1.out.cell_ 0 (.int .i64 st) rfl;have x1:=HP1.out.cell_ 1 (.int .i64 sym) rfl;have x2:=HP1.out.cell_ 2 (.slice hA hood.length hc) rfl;have x3:=HP1.out.cell_ 3 (.slice vA vs.length vc) rfl;have x4:=HP1.out.cell_ 4 (.slice rA rs.length rc) rfl;go_wp2;go_ret2;exact⟨(by first | (rw[HE.out.1,HE.out.2];done) | (rw[HE.out.1,HE.out.2];rfl)),HB0.out.trans (HB1.out.mono HB0.out.size)⟩
 | true=>
 have HRT:=hid hrt;rw[hrt] at HCR;clear hrt;by_cases hr0:row < 0
 case pos=>
  have d0:decide (row < 0)=true:=decide_eq_true hr0;have HE:=hid (HNO.out (.inr (.inl hr0)));clear hr0;go_enter Tryz.func14,Tryz.ntmps14;go_upto_region 1 with fail
  rw[← HW0.out.1,← HW0.out.2];go_wp2_with (go_at_call 10;refine HCR.out.mono ?_;rintro e w1 ⟨rfl,hb1⟩;refine Hid.out ?_);refine hid ?_;have HB1:=hid hb1;have HP1:=hid (HP.out.below hb1 HP.out.lt);clear hb1 x0 x1 x2 x3 x4;have x0:=HP1.out.cell_ 0 (.int .i64 st) rfl;have x1:=HP1.out.cell_ 1 (.int .i64 sym) rfl;have x2:=HP1.out.cell_ 2 (.slice hA hood.length hc) rfl;have x3:=HP1.out.cell_ 3 (.slice vA vs.length vc) rfl;have x4:=HP1.out.cell_ 4 (.slice rA rs.length rc) rfl;go_wp2;go_ret2;exact⟨(by first | (rw[HE.out.1,HE.out.2];done) | (rw[HE.out.1,HE.out.2];rfl)),HB0.out.trans (HB1.out.mono HB0.out.size)⟩
 case neg=>
 have d0:decide (row < 0)=false:=decide_eq_false hr0;obtain⟨i,hri⟩:∃ i:Nat,row=(i:Int):=⟨row.toNat,by omega⟩
 subst hri;clear hr0;by_cases hr1:rs.length≤i
 case pos=>
  have d5:decide ((rs.length:Int)≤(i:Int))=true:=decide_eq_true (by omega);have d5':decide (rs.length≤i)=true:=decide_eq_true hr1;have HE:=hid (HNO.out (.inr (.inr (.inl (by rw[HTB.out.2.2,List.length_map];omega)))));clear hr1;go_enter Tryz.func14,Tryz.ntmps14;go_upto_region 1 with fail
  rw[← HW0.out.1,← HW0.out.2];go_wp2_with (go_at_call 10;refine HCR.out.mono ?_;rintro e w1 ⟨rfl,hb1⟩;refine Hid.out ?_);refine hid ?_;have HB1:=hid hb1;have HP1:=hid (HP.out.below hb1 HP.out.lt);clear hb1 x0 x1 x2 x3 x4;have x0:=HP1.out.cell_ 0 (.int .i64 st) rfl;have x1:=HP1.out.cell_ 1 (.int .i64 sym) rfl;have x2:=HP1.out.cell_ 2 (.slice hA hood.length hc) rfl;have x3:=HP1.out.cell_ 3 (.slice vA vs.length vc) rfl;have x4:=HP1.out.cell_ 4 (.slice rA rs.length rc) rfl;go_wp2;go_ret2;exact⟨(by first | (rw[HE.out.1,HE.out.2];done) | (rw[HE.out.1,HE.out.2];rfl)),HB0.out.trans (HB1.out.mono HB0.out.size)⟩
 case neg=>
 have d5:decide ((rs.length:Int)≤(i:Int))=false:=decide_eq_false (by omega);have d5':decide (rs.length≤i)=false:=decide_eq_false hr1;have hil:i < rs.length:=by omega
 clear hr1;by_cases hl:inn.length=hood.length
 case neg=>
  have d1:((inn.length:Int) != (hood.length:Int))=true:=by simp;omega
  have d1':(inn.length != hood.length)=true:=by simp[hl]
  have HE:=hid (HNO.out (.inr (.inr (.inr (.inl (by rw[HTB.out.1];exact hl))))));clear hl;go_enter Tryz.func14,Tryz.ntmps14;go_upto_region 1 with fail
  rw[← HW0.out.1,← HW0.out.2];go_wp2_with (go_at_call 10;refine HCR.out.mono ?_;rintro e w1 ⟨rfl,hb1⟩;refine Hid.out ?_);refine hid ?_;have HB1:=hid hb1;have HP1:=hid (HP.out.below hb1 HP.out.lt);clear hb1 x0 x1 x2 x3 x4;have x0:=HP1.out.cell_ 0 (.int .i64 st) rfl;have x1:=HP1.out.cell_ 1 (.int .i64 sym) rfl;have x2:=HP1.out.cell_ 2 (.slice hA hood.length hc) rfl;have x3:=HP1.out.cell_ 3 (.slice vA vs.length vc) rfl;have x4:=HP1.out.cell_ 4 (.slice rA rs.length rc) rfl;go_wp2;go_ret2;exact⟨(by first | (rw[HE.out.1,HE.out.2];done) | (rw[HE.out.1,HE.out.2];rfl)),HB0.out.trans (HB1.out.mono HB0.out.size)⟩
 case pos=>
 have d1:((inn.length:Int) != (hood.length:Int))=false:=by simp[hl]
 have d1':(inn.length != hood.length)=false:=by simp[hl]
 have HL:=hid hl;clear hl;cases hss:statesB st inn with
 | false=>
  have HE:=hid (HNO.out (.inr (.inr (.inr (.inr (by rw[HTB.out.2.1];exact hss))))));rw[hss] at HST;clear hss;go_enter Tryz.func14,Tryz.ntmps14;go_upto_region 1 with fail
  rw[← HW0.out.1,← HW0.out.2];go_wp2_with (go_at_call 10;refine HCR.out.mono ?_;rintro e w1 ⟨rfl,hb1⟩;refine Hid.out ?_);refine hid ?_;have HB1:=hid hb1;have HP1:=hid (HP.out.below hb1 HP.out.lt);clear hb1 x0 x1 x2 x3 x4;have x0:=HP1.out.cell_ 0 (.int .i64 st) rfl;have x1:=HP1.out.cell_ 1 (.int .i64 sym) rfl;have x2:=HP1.out.cell_ 2 (.slice hA hood.length hc) rfl;have x3:=HP1.out.cell_ 3 (.slice vA vs.length vc) rfl;have x4:=HP1.out.cell_ 4 (.slice rA rs.length rc) rfl;have HCQ:=hid (HST.out w1 HB1.out);go_wp2_with (go_at_call 41;refine HCQ.out.mono ?_;rintro e w2 ⟨rfl,hb2⟩;refine Hid.out ?_);refine hid ?_;have HB2:=hid (HB1.out.trans (hb2.mono HB1.out.size));have HP2:=hid (HP.out.below HB2.out HP.out.lt);clear hb2 x0 x1 x2 x3 x4;have x0:=HP2.out.cell_ 0 (.int .i64 st) rfl;have x1:=HP2.out.cell_ 1 (.int .i64 sym) rfl;have x2:=HP2.out.cell_ 2 (.slice hA hood.length hc) rfl;have x3:=HP2.out.cell_ 3 (.slice vA vs.length vc) rfl;have x4:=HP2.out.cell_ 4 (.slice rA rs.length rc) rfl;go_wp2;go_ret2;exact⟨(by first | (rw[HE.out.1,HE.out.2];done) | (rw[HE.out.1,HE.out.2];rfl)),HB0.out.trans (HB2.out.mono HB0.out.size)⟩
 | true=>
 have HSS:=hid hss;rw[hss] at HST;have hgr:TL.rows.getD i ([],0)=rs[i].rw_:=by rw[HTB.out.2.2,List.getD_eq_getElem?_getD,List.getElem?_map,List.getElem?_eq_getElem hil];rfl
 have HE:Hid ((n1,n2)=rowD TL inn rs[i].rw_):=hid (by
  have h:=HN.out;unfold matchT at h;rw[if_neg (by
   rintro (h | h | h | h | h)
   ·rw[HRT.out] at h;cases h
   ·omega
   ·rw[HTB.out.2.2,List.length_map] at h;have:=hil;omega
   ·exact h (by rw[HTB.out.1];exact HL.out)
   ·rw[HTB.out.2.1,HSS.out] at h;cases h),Int.toNat_natCast,hgr] at h
  exact h.symm)
 have HDI:=hid (HDEC.out HRT.out HL.out HSS.out i hil);clear hss HDEC hgr;go_enter Tryz.func14,Tryz.ntmps14;go_upto_region 1 with fail
 rw[← HW0.out.1,← HW0.out.2];go_wp2_with (go_at_call 10;refine HCR.out.mono ?_;rintro e w1 ⟨rfl,hb1⟩;refine Hid.out ?_);refine hid ?_;have HB1:=hid hb1;have HP1:=hid (HP.out.below hb1 HP.out.lt);clear hb1 x0 x1 x2 x3 x4;have x0:=HP1.out.cell_ 0 (.int .i64 st) rfl;have x1:=HP1.out.cell_ 1 (.int .i64 sym) rfl;have x2:=HP1.out.cell_ 2 (.slice hA hood.length hc) rfl;have x3:=HP1.out.cell_ 3 (.slice vA vs.length vc) rfl;have x4:=HP1.out.cell_ 4 (.slice rA rs.length rc) rfl;have HCQ:=hid (HST.out w1 HB1.out);go_wp2_with (go_at_call 41;refine HCQ.out.mono ?_;rintro e w2 ⟨rfl,hb2⟩;refine Hid.out ?_);refine hid ?_;have HB2:=hid (HB1.out.trans (hb2.mono HB1.out.size));have HP2:=hid (HP.out.below HB2.out HP.out.lt);clear hb2 x0 x1 x2 x3 x4;have x0:=HP2.out.cell_ 0 (.int .i64 st) rfl;have x1:=HP2.out.cell_ 1 (.int .i64 sym) rfl;have x2:=HP2.out.cell_ 2 (.slice hA hood.length hc) rfl;have x3:=HP2.out.cell_ 3 (.slice vA vs.length vc) rfl;have x4:=HP2.out.cell_ 4 (.slice rA rs.length rc) rfl;clear x0 x1 x2 x3 x4;have HRW2:=hid (HRW.out.ext HB2.out);obtain⟨rb,ro,ea,-,hca,hda,-⟩:=HRW2.out.at_ hil;obtain⟨xh,hxh⟩:∃ z,z=rs[i]:=⟨_,rfl⟩
 rw[← hxh] at hca hda HE HDI;obtain⟨xA,xc,zs,out⟩:=xh;obtain⟨rd,hrd⟩:∃ r,r=rowD TL inn (Rh.rw_ ⟨xA,xc,zs,out⟩):=⟨_,rfl⟩
 rw[← hrd] at HE HDI;obtain⟨r1,r2⟩:=rd;dsimp only at hca hda ea HDI;obtain⟨rfl,rfl⟩:n1=r1∧n2=r2:=by have h:=HE.out;injection h with h1 h2;exact⟨h1,h2⟩
 subst ea;have x0:=HP2.out.cell_ 0 (.int .i64 st) rfl;have x1:=HP2.out.cell_ 1 (.int .i64 sym) rfl;have x2:=HP2.out.cell_ 2 (.slice hA hood.length hc) rfl;have x3:=HP2.out.cell_ 3 (.slice vA vs.length vc) rfl;have x4:=HP2.out.cell_ 4 (.slice (some ⟨rb,ro,none⟩) rs.length rc) rfl;have j0:=cell_regrown x0;have j1:=cell_regrown x1;have j2:=cell_regrown x2;have j3:=cell_regrown x3;have j4:=cell_regrown x4;have j5:=cell_regrown hca;have j6:=cell_regrown hda;have CD:=hid (fun d os=>Calls.regrown_of (HDI.out _ (HB2.out.trans ((below_regrown w2 d os).mono HB2.out.size))));have HBE:=hid (HB0.out.trans (HB2.out.mono HB0.out.size));have HB3:=hid (HB0.out.trans (HB2.out.mono HB0.out.size));clear x0 x1 x2 x3 x4 hca hda hrd hxh HDI;go_upto_region 3 with fail
 refine wp_region_quiet_below (by kernel_rfl) (by kernel_rfl) ?_;repeat (go_big_quiet_step (first | with_reducible exact CD.out _ _))
 refine wpQuiet_nil ?_;intro _ hw';obtain⟨⟨dq,osq⟩,hw''⟩:=hw';subst hw'';go_wp2;go_ret2;exact⟨rfl,HB3.out.trans ((below_regrown w2 dq osq).mono HB3.out.size)⟩
end Go.Proofs.YtcmbdhopmncmnaaGreatDoor
namespace Go.Proofs.YtcmbdhopmncmnaaGreatDoor
set_option linter.unusedVariables false
set_option linter.unusedSimpArgs false
end Go.Proofs.YtcmbdhopmncmnaaGreatDoor
