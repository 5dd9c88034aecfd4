/-
  texts LawTrees: parts of the proof; conditions stand with each theorem.
-/
import Derived.Test.YtlegfdllipkggaaGreatDoorWG19
import Derived.Test.YtlegfdllipkggaaGreatDoorWG26
import Derived.Test.YtlegfdllipkggaaGreatDoorWPermW
import Derived.Test.YtlegfdllipkggaaGreatDoorWG29
namespace Go.Proofs.YtlegfdllipkggaaGreatDoor
open Lib(hid)
open Go.RowKit Go.Maps
set_option maxRecDepth 100000
set_option linter.unusedVariables false
set_option linter.unusedSimpArgs false
set_option maxHeartbeats 16000000 in
theorem lawTrees_any (hA:Option Addr)(hc:Nat)(vA:Option Addr)(vc:Nat)(rA:Option Addr)(rc:Nat)(t:TabH)(row:Int)(w:World)(hT:TabR w hA vA rA t)(ht:TabB w.heap.size w)(hG:GMat w) :
  Calls Tryz.prog 3 #[tabV hA hc vA vc rA rc t,.int .i64 row] w fun e w'=>e=.returned (.bool true)∧Below w.heap.size w w':=by
 have hSYM:SymOk t.sym:=symOk t.sym;obtain⟨w0,hw0⟩:∃ w0,w0=w.alloc (.cells #[.int .i64 t.st,.int .i64 t.sym,.slice hA t.hood.length hc,.slice vA t.vs.length vc,.slice rA t.rs.length rc] 26):=⟨_,rfl⟩
 obtain⟨pX,hpX⟩:∃ p,p=w.heap.size:=⟨_,rfl⟩
 have hv:=TvB.new (hc:=hc) (vc:=vc) (rc:=rc) hT;rw[← hw0,← hpX] at hv;have HX:=hid hv;have hb0:Below w.heap.size w w0:=by rw[hw0];exact below_new _ _
 have HB:Hid (Below w.heap.size w w0):=hid hb0;have HW0:=hid (And.intro hw0 hpX);have HTAB:=hid ht;have HGM:=hid hG;have HSYM:=hid hSYM;obtain⟨te,hte⟩:∃ te,te=treeT t.tab:=⟨_,rfl⟩
 have HTE:=hid hte.symm;obtain⟨re,hre⟩:∃ te,te=rowT t.tab row:=⟨_,rfl⟩
 have HRE:=hid hre.symm;obtain⟨a,ee⟩:=te;obtain⟨b,ff⟩:=re;clear hw0 hpX hv hb0 hT ht hG hSYM hte hre;cases hy:tinyB t.tab with
 | false=>
  go_enter Tryz.func3,Tryz.ntmps3;unfold tabV;go_upto_region 1 with fail
  rw[← HW0.out.1,← HW0.out.2];clear HW0;obtain⟨a0,a1,a2,a3,a4⟩:=HX.out.cells;have hcall:=tiny_any hA hc vA vc rA rc t w0 HX.out.tb;rw[hy] at hcall;unfold tabV at hcall;have HCALL:=hid hcall;clear hcall;go_wp2_with (go_at_call 6;refine HCALL.out.mono ?_;intro e x1 hx;obtain⟨rfl,hb⟩:=hx;refine Hid.out ?_);refine hid ?_;replace HB:=hid (HB.out.trans (hb.mono HB.out.size));replace HX:=hid (HX.out.ext hb);clear hb HCALL;clear a0 a1 a2 a3 a4;have hcall:=awake_any x1 ((HTAB.out.on HB.out).up HB.out.size) (HGM.out.ext HB.out);have HCALL:=hid hcall;clear hcall;go_wp2_with (go_at_call 7;refine HCALL.out.mono ?_;intro e x2 hx;obtain⟨rfl,hb⟩:=hx;refine Hid.out ?_);refine hid ?_;replace HB:=hid (HB.out.trans (hb.mono HB.out.size));replace HX:=hid (HX.out.ext hb);clear hb HCALL;go_wp2;go_ret;exact⟨rfl,HB.out⟩
 | true=>
  go_enter Tryz.func3,Tryz.ntmps3;unfold tabV;go_upto_region 1 with fail
  rw[← HW0.out.1,← HW0.out.2];clear HW0;obtain⟨a0,a1,a2,a3,a4⟩:=HX.out.cells;have hcall:=tiny_any hA hc vA vc rA rc t w0 HX.out.tb;rw[hy] at hcall;unfold tabV at hcall;have HCALL:=hid hcall;clear hcall;go_wp2_with (go_at_call 6;refine HCALL.out.mono ?_;intro e x1 hx;obtain⟨rfl,hb⟩:=hx;refine Hid.out ?_);refine hid ?_;replace HB:=hid (HB.out.trans (hb.mono HB.out.size));replace HX:=hid (HX.out.ext hb);clear hb HCALL;clear a0 a1 a2 a3 a4;go_upto_region 3 with fail
  obtain⟨a0,a1,a2,a3,a4⟩:=HX.out.cells;have hcall:=tree15_any hA hc vA vc rA rc t x1 HX.out.tb (HGM.out.ext HB.out) ((HTAB.out.on HB.out).up HB.out.size) HSYM.out;rw[HTE.out] at hcall;unfold tabV at hcall;have HCALL:=hid hcall;clear hcall;go_wp2_with (go_at_call 8;refine HCALL.out.mono ?_;intro e x2 hx;obtain⟨s2,A2,n2,c2,B2,m2,d2,rfl,hat,hb⟩:=hx;refine Hid.out ?_);refine hid ?_;replace HB:=hid (HB.out.trans (hb.mono HB.out.size));replace HX:=hid (HX.out.ext hb);clear hb HCALL;clear a0 a1 a2 a3 a4;obtain⟨y2,hw⟩:∃ W,W=x2.alloc (.cells #[.int .i64 s2,.slice A2 n2 c2,.slice B2 m2 d2] 31):=⟨_,rfl⟩
  obtain⟨pP,hp⟩:∃ p,p=x2.heap.size:=⟨_,rfl⟩
  have hv:=TrV.new hat;rw[← hw,← hp] at hv;have hb:Below x2.heap.size x2 y2:=by rw[hw];exact below_new _ _
  replace HB:=hid (HB.out.trans (hb.mono HB.out.size));replace HX:=hid (HX.out.ext hb);have HP:=hid hv;clear hv hb hat;go_upto_region 4 with fail
  rw[← hw,← hp];clear hw hp;obtain⟨a0,a1,a2,a3,a4⟩:=HX.out.cells;have hcall:=rtree15_any hA hc vA vc rA rc t y2 HX.out.tb HSYM.out;rw[HTE.out] at hcall;unfold tabV at hcall;have HCALL:=hid hcall;clear hcall;go_wp2_with (go_at_call 9;refine HCALL.out.mono ?_;intro e x3 hx;obtain⟨s3,A3,n3,c3,B3,m3,d3,rfl,hat,hb⟩:=hx;refine Hid.out ?_);refine hid ?_;replace HB:=hid (HB.out.trans (hb.mono HB.out.size));replace HP:=hid (HP.out.ext hb);replace HX:=hid (HX.out.ext hb);clear hb HCALL;clear a0 a1 a2 a3 a4;obtain⟨y3,hw⟩:∃ W,W=x3.alloc (.cells #[.int .i64 s3,.slice A3 n3 c3,.slice B3 m3 d3] 31):=⟨_,rfl⟩
  obtain⟨pQ,hp⟩:∃ p,p=x3.heap.size:=⟨_,rfl⟩
  have hv:=TrV.new hat;rw[← hw,← hp] at hv;have hb:Below x3.heap.size x3 y3:=by rw[hw];exact below_new _ _
  replace HB:=hid (HB.out.trans (hb.mono HB.out.size));replace HP:=hid (HP.out.ext hb);replace HX:=hid (HX.out.ext hb);have HQ:=hid hv;clear hv hb hat;go_upto_region 5 with fail
  rw[← hw,← hp];clear hw hp;obtain⟨a0,a1,a2,a3,a4⟩:=HX.out.cells;have hcall:=row15_any hA hc vA vc rA rc t row y3 HX.out.tb (HGM.out.ext HB.out) ((HTAB.out.on HB.out).up HB.out.size) HSYM.out;rw[HRE.out] at hcall;unfold tabV at hcall;have HCALL:=hid hcall;clear hcall;go_wp2_with (go_at_call 10;refine HCALL.out.mono ?_;intro e x4 hx;obtain⟨s4,A4,n4,c4,B4,m4,d4,rfl,hat,hb⟩:=hx;refine Hid.out ?_);refine hid ?_;replace HB:=hid (HB.out.trans (hb.mono HB.out.size));replace HP:=hid (HP.out.ext hb);replace HQ:=hid (HQ.out.ext hb);replace HX:=hid (HX.out.ext hb);clear hb HCALL;clear a0 a1 a2 a3 a4;obtain⟨y4,hw⟩:∃ W,W=x4.alloc (.cells #[.int .i64 s4,.slice A4 n4 c4,.slice B4 m4 d4] 31):=⟨_,rfl⟩
  obtain⟨pR,hp⟩:∃ p,p=x4.heap.size:=⟨_,rfl⟩
  have hv:=TrV.new hat;rw[← hw,← hp] at hv;have hb:Below x4.heap.size x4 y4:=by rw[hw];exact below_new _ _
  replace HB:=hid (HB.out.trans (hb.mono HB.out.size));replace HP:=hid (HP.out.ext hb);replace HQ:=hid (HQ.out.ext hb);replace HX:=hid (HX.out.ext hb);have HR:=hid hv;clear hv hb hat;go_upto_region 6 with fail
  rw[← hw,← hp];clear hw hp;obtain⟨a0,a1,a2,a3,a4⟩:=HX.out.cells;have hcall:=rrow15_any hA hc vA vc rA rc t row y4 HX.out.tb HSYM.out;rw[HRE.out] at hcall;unfold tabV at hcall;have HCALL:=hid hcall;clear hcall;go_wp2_with (go_at_call 11;refine HCALL.out.mono ?_;intro e x5 hx;obtain⟨s5,A5,n5,c5,B5,m5,d5,rfl,hat,hb⟩:=hx;refine Hid.out ?_);refine hid ?_;replace HB:=hid (HB.out.trans (hb.mono HB.out.size));replace HP:=hid (HP.out.ext hb);replace HQ:=hid (HQ.out.ext hb);replace HR:=hid (HR.out.ext hb);replace HX:=hid (HX.out.ext hb);clear hb HCALL;clear a0 a1 a2 a3 a4;obtain⟨y5,hw⟩:∃ W,W=x5.alloc (.cells #[.int .i64 s5,.slice A5 n5 c5,.slice B5 m5 d5] 31):=⟨_,rfl⟩
  obtain⟨pS,hp⟩:∃ p,p=x5.heap.size:=⟨_,rfl⟩
  have hv:=TrV.new hat;rw[← hw,← hp] at hv;have hb:Below x5.heap.size x5 y5:=by rw[hw];exact below_new _ _
  replace HB:=hid (HB.out.trans (hb.mono HB.out.size));replace HP:=hid (HP.out.ext hb);replace HQ:=hid (HQ.out.ext hb);replace HR:=hid (HR.out.ext hb);replace HX:=hid (HX.out.ext hb);have HS:=hid hv;clear hv hb hat;go_upto_region 7 with fail
  rw[← hw,← hp];clear hw hp;obtain⟨cP0,cP1,cP2⟩:=HP.out.cells;obtain⟨cQ0,cQ1,cQ2⟩:=HQ.out.cells;have hcall:=rsamet_at HP.out.at_ HQ.out.at_;rw[sameP_self] at hcall;have HCALL:=hid hcall;clear hcall;go_wp2_with (go_at_call 12;refine HCALL.out.mono ?_;intro e x6 hx;obtain⟨rfl,hb⟩:=hx;refine Hid.out ?_);refine hid ?_;replace HB:=hid (HB.out.trans (hb.mono HB.out.size));replace HP:=hid (HP.out.ext hb);replace HQ:=hid (HQ.out.ext hb);replace HR:=hid (HR.out.ext hb);replace HS:=hid (HS.out.ext hb);replace HX:=hid (HX.out.ext hb);clear hb HCALL;clear cP0 cP1 cP2 cQ0 cQ1 cQ2;obtain⟨cR0,cR1,cR2⟩:=HR.out.cells;obtain⟨cS0,cS1,cS2⟩:=HS.out.cells;have hcall:=rsamet_at HR.out.at_ HS.out.at_;rw[sameP_self] at hcall;have HCALL:=hid hcall;clear hcall;go_wp2_with (go_at_call 12;refine HCALL.out.mono ?_;intro e x7 hx;obtain⟨rfl,hb⟩:=hx;refine Hid.out ?_);refine hid ?_;replace HB:=hid (HB.out.trans (hb.mono HB.out.size));replace HP:=hid (HP.out.ext hb);replace HQ:=hid (HQ.out.ext hb);replace HR:=hid (HR.out.ext hb);replace HS:=hid (HS.out.ext hb);replace HX:=hid (HX.out.ext hb);clear hb HCALL;clear cR0 cR1 cR2 cS0 cS1 cS2;have hcall:=awake_any x7 ((HTAB.out.on HB.out).up HB.out.size) (HGM.out.ext HB.out);have HCALL:=hid hcall;clear hcall;go_wp2_with (go_at_call 7;refine HCALL.out.mono ?_;intro e x8 hx;obtain⟨rfl,hb⟩:=hx;refine Hid.out ?_);refine hid ?_;replace HB:=hid (HB.out.trans (hb.mono HB.out.size));replace HP:=hid (HP.out.ext hb);replace HQ:=hid (HQ.out.ext hb);replace HR:=hid (HR.out.ext hb);replace HS:=hid (HS.out.ext hb);replace HX:=hid (HX.out.ext hb);clear hb HCALL;go_wp2;go_ret;exact⟨rfl,HB.out⟩
end Go.Proofs.YtlegfdllipkggaaGreatDoor
