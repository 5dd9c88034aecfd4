/-
  texts Awake11 TvB Open OpenT Laid: parts of the proof; conditions stand with each theorem.
-/
import Derived.Test.YtcmbdhopmncmnaaGreatDoorWG14
import Derived.Test.YtcmbdhopmncmnaaGreatDoorWG8
import Derived.Test.YtcmbdhopmncmnaaGreatDoorWG2
import Derived.Test.YtcmbdhopmncmnaaGreatDoorRows
import Derived.WalkKit
import Derived.ProofKit
import Derived.OpenShut
import Derived.HandedShaped
import Derived.Shelf.Vars
import Derived.Lib.LaidTab
import Derived.Stop.LaidErr
import Derived.Laws.IdiomArrays
import Derived.Deep.SlicePairs
import Derived.MakeChecks
import Derived.Below
import Derived.ChangeSame
import Derived.Test.YtcmbdhopmncmnaaGreatDoorWG1
import Derived.LaidMore
import Derived.Lay
import Derived.Deep.DeepHandedRow
namespace Go.Proofs.YtcmbdhopmncmnaaGreatDoor
open Lib(hid)
open Go.RowKit Go.Maps
set_option maxRecDepth 100000
set_option linter.unusedVariables false
set_option linter.unusedSimpArgs false
set_option maxHeartbeats 16000000 in
theorem awake_any (w:World)(he:Env w):Calls Tryz.prog 9 #[] w fun e w'=>e=.returned (.bool true)∧Below w.heap.size w w':=by
 have HENV:=hid he;have HB:Hid (Below w.heap.size w w):=hid (Below.refl _ _);clear he;go_enter Tryz.func9,Tryz.ntmps9;have hcall:=example_any w;have HCALL:=hid hcall;clear hcall;go_wp2_with (go_at_call 25;refine HCALL.out.mono ?_;intro e x1 hx;obtain⟨rfl,hb⟩:=hx;refine Hid.out ?_);refine hid ?_;replace HB:=hid (HB.out.trans (hb.mono HB.out.size));replace HENV:=hid (HENV.out.ext hb);clear hb HCALL;have hcall:=parse_q exA HENV.out (by decide);rw[exA_parse] at hcall;have HCALL:=hid hcall;clear hcall;go_wp2_with (go_at_call 18;refine HCALL.out.mono ?_;intro e x2 hx;obtain⟨hA1,hc1,vA1,vc1,rA1,rc1,rfl,hq,hb⟩:=hx;dsimp only [tabK,tabA,zero11,line11,List.length];refine Hid.out ?_);refine hid ?_;replace HB:=hid (HB.out.trans (hb.mono HB.out.size));replace HENV:=hid (HENV.out.ext hb);clear hb HCALL;obtain⟨zT,hw⟩:∃ W,W=x2.alloc (.cells #[.int .i64 2,.int .i64 0,.slice hA1 3 hc1,.slice vA1 1 vc1,.slice rA1 2 rc1] 26):=⟨_,rfl⟩
 obtain⟨pT,hp⟩:∃ p,p=x2.heap.size:=⟨_,rfl⟩
 have hb:Below x2.heap.size x2 zT:=by rw[hw];exact below_new _ _
 have hv:=TvK.new (hc:=hc1) (vc:=vc1) (rc:=rc1) hq;have hv2:TvK zT pT hA1 hc1 vA1 vc1 rA1 rc1 tabA:=by rw[hw,hp];exact hv
 clear hv hq;replace HB:=hid (HB.out.trans (hb.mono HB.out.size));replace HENV:=hid (HENV.out.ext hb);have HT:=hid hv2;clear hv2;clear hb;go_upto_region 2 with fail
 rw[← hw,← hp];clear hw hp;have hcall:=parse_q exB HENV.out (by decide);rw[exB_parse] at hcall;have HCALL:=hid hcall;clear hcall;go_wp2_with (go_at_call 18;refine HCALL.out.mono ?_;intro e x3 hx;obtain⟨hA2,hc2,vA2,vc2,rA2,rc2,rfl,hq,hb⟩:=hx;dsimp only [tabK,tabA,zero11,line11,List.length];refine Hid.out ?_);refine hid ?_;replace HB:=hid (HB.out.trans (hb.mono HB.out.size));replace HENV:=hid (HENV.out.ext hb);replace HT:=hid (HT.out.ext hb);clear hb HCALL;clear hq;obtain⟨zV,hw⟩:∃ W,W=x3.alloc (.cells #[.int .i64 0,.int .i64 0,.slice hA2 0 hc2,.slice vA2 0 vc2,.slice rA2 0 rc2] 26):=⟨_,rfl⟩
 obtain⟨pV,hp⟩:∃ p,p=x3.heap.size:=⟨_,rfl⟩
 have hb:Below x3.heap.size x3 zV:=by rw[hw];exact below_new _ _
 replace HB:=hid (HB.out.trans (hb.mono HB.out.size));replace HENV:=hid (HENV.out.ext hb);replace HT:=hid (HT.out.ext hb);clear hb;go_upto_region 3 with fail
 rw[← hw,← hp];clear hw hp;have hcall:=parse_q [] HENV.out (by decide);rw[exE_parse] at hcall;have HCALL:=hid hcall;clear hcall;go_wp2_with (go_at_call 18;refine HCALL.out.mono ?_;intro e x4 hx;obtain⟨hA3,hc3,vA3,vc3,rA3,rc3,rfl,hq,hb⟩:=hx;dsimp only [tabK,tabA,zero11,line11,List.length];refine Hid.out ?_);refine hid ?_;replace HB:=hid (HB.out.trans (hb.mono HB.out.size));replace HENV:=hid (HENV.out.ext hb);replace HT:=hid (HT.out.ext hb);clear hb HCALL;clear hq;obtain⟨zY,hw⟩:∃ W,W=x4.alloc (.cells #[.int .i64 0,.int .i64 0,.slice hA3 0 hc3,.slice vA3 0 vc3,.slice rA3 0 rc3] 26):=⟨_,rfl⟩
 obtain⟨pY,hp⟩:∃ p,p=x4.heap.size:=⟨_,rfl⟩
 have hb:Below x4.heap.size x4 zY:=by rw[hw];exact below_new _ _
 replace HB:=hid (HB.out.trans (hb.mono HB.out.size));replace HENV:=hid (HENV.out.ext hb);replace HT:=hid (HT.out.ext hb);clear hb;go_upto_region 4 with fail
 rw[← hw,← hp];clear hw hp;have cT0:zY.cell? ⟨pT,0,none⟩=some (.int .i64 2):=HT.out.cells.1;have cT1:zY.cell? ⟨pT,1,none⟩=some (.int .i64 0):=HT.out.cells.2.1;have cT2:zY.cell? ⟨pT,2,none⟩=some (.slice hA1 3 hc1):=HT.out.cells.2.2.1;have cT3:zY.cell? ⟨pT,3,none⟩=some (.slice vA1 1 vc1):=HT.out.cells.2.2.2.1;have cT4:zY.cell? ⟨pT,4,none⟩=some (.slice rA1 2 rc1):=HT.out.cells.2.2.2.2;obtain⟨wi1,hwi⟩:∃ W,W=zY.alloc (.cells #[.int .i64 1,.int .i64 0,.int .i64 0] 3):=⟨_,rfl⟩
 have hri:Ints wi1 (some ⟨zY.heap.size,0,none⟩) [1,0,0]:=by rw[hwi];exact OwnI.reads (lit11a zY 0 (Nat.zero_le _) (1) (0) (0))
 have hbi:Below zY.heap.size zY wi1:=by rw[hwi];exact below_new _ _
 have HWI:=hid hwi;clear hwi;replace HB:=hid (HB.out.trans (hbi.mono HB.out.size));replace HENV:=hid (HENV.out.ext hbi);replace HT:=hid (HT.out.ext hbi);have hcall:=next_q (hc:=hc1) (vc:=vc1) (rc:=rc1) HT.out.tb HENV.out.mat hri 3;rw[exA_next1] at hcall;have HCALL:=hid hcall;clear hcall;go_wp2_with (go_at_call 16;rw[← HWI.out];refine HCALL.out.mono ?_;intro e x5 hx;obtain⟨rfl,hb⟩:=hx;refine Hid.out ?_);refine hid ?_;replace HB:=hid (HB.out.trans (hb.mono HB.out.size));replace HENV:=hid (HENV.out.ext hb);replace HT:=hid (HT.out.ext hb);clear hb HCALL;clear cT0 cT1 cT2 cT3 cT4;clear HWI hri hbi;have cT0:x5.cell? ⟨pT,0,none⟩=some (.int .i64 2):=HT.out.cells.1;have cT1:x5.cell? ⟨pT,1,none⟩=some (.int .i64 0):=HT.out.cells.2.1;have cT2:x5.cell? ⟨pT,2,none⟩=some (.slice hA1 3 hc1):=HT.out.cells.2.2.1;have cT3:x5.cell? ⟨pT,3,none⟩=some (.slice vA1 1 vc1):=HT.out.cells.2.2.2.1;have cT4:x5.cell? ⟨pT,4,none⟩=some (.slice rA1 2 rc1):=HT.out.cells.2.2.2.2;obtain⟨wi2,hwi⟩:∃ W,W=x5.alloc (.cells #[.int .i64 1,.int .i64 1,.int .i64 1] 3):=⟨_,rfl⟩
 have hri:Ints wi2 (some ⟨x5.heap.size,0,none⟩) [1,1,1]:=by rw[hwi];exact OwnI.reads (lit11a x5 0 (Nat.zero_le _) (1) (1) (1))
 have hbi:Below x5.heap.size x5 wi2:=by rw[hwi];exact below_new _ _
 have HWI:=hid hwi;clear hwi;replace HB:=hid (HB.out.trans (hbi.mono HB.out.size));replace HENV:=hid (HENV.out.ext hbi);replace HT:=hid (HT.out.ext hbi);have hcall:=next_q (hc:=hc1) (vc:=vc1) (rc:=rc1) HT.out.tb HENV.out.mat hri 3;rw[exA_next2] at hcall;have HCALL:=hid hcall;clear hcall;go_wp2_with (go_at_call 16;rw[← HWI.out];refine HCALL.out.mono ?_;intro e x6 hx;obtain⟨rfl,hb⟩:=hx;refine Hid.out ?_);refine hid ?_;replace HB:=hid (HB.out.trans (hb.mono HB.out.size));replace HENV:=hid (HENV.out.ext hb);replace HT:=hid (HT.out.ext hb);clear hb HCALL;clear cT0 cT1 cT2 cT3 cT4;clear HWI hri hbi;have cT0:x6.cell? ⟨pT,0,none⟩=some (.int .i64 2):=HT.out.cells.1;have cT1:x6.cell? ⟨pT,1,none⟩=some (.int .i64 0):=HT.out.cells.2.1;have cT2:x6.cell? ⟨pT,2,none⟩=some (.slice hA1 3 hc1):=HT.out.cells.2.2.1;have cT3:x6.cell? ⟨pT,3,none⟩=some (.slice vA1 1 vc1):=HT.out.cells.2.2.2.1;have cT4:x6.cell? ⟨pT,4,none⟩=some (.slice rA1 2 rc1):=HT.out.cells.2.2.2.2;obtain⟨wi3,hwi⟩:∃ W,W=x6.alloc (.cells #[.int .i64 0,.int .i64 0,.int .i64 1] 3):=⟨_,rfl⟩
 have hri:Ints wi3 (some ⟨x6.heap.size,0,none⟩) [0,0,1]:=by rw[hwi];exact OwnI.reads (lit11a x6 0 (Nat.zero_le _) (0) (0) (1))
 have hbi:Below x6.heap.size x6 wi3:=by rw[hwi];exact below_new _ _
 have HWI:=hid hwi;clear hwi;replace HB:=hid (HB.out.trans (hbi.mono HB.out.size));replace HENV:=hid (HENV.out.ext hbi);replace HT:=hid (HT.out.ext hbi);have hcall:=next_q (hc:=hc1) (vc:=vc1) (rc:=rc1) HT.out.tb HENV.out.mat hri 3;rw[exA_next3] at hcall;have HCALL:=hid hcall;clear hcall;go_wp2_with (go_at_call 16;rw[← HWI.out];refine HCALL.out.mono ?_;intro e x7 hx;obtain⟨rfl,hb⟩:=hx;refine Hid.out ?_);refine hid ?_;replace HB:=hid (HB.out.trans (hb.mono HB.out.size));replace HENV:=hid (HENV.out.ext hb);replace HT:=hid (HT.out.ext hb);clear hb HCALL;clear cT0 cT1 cT2 cT3 cT4;clear HWI hri hbi;have cT0:x7.cell? ⟨pT,0,none⟩=some (.int .i64 2):=HT.out.cells.1;have cT1:x7.cell? ⟨pT,1,none⟩=some (.int .i64 0):=HT.out.cells.2.1;have cT2:x7.cell? ⟨pT,2,none⟩=some (.slice hA1 3 hc1):=HT.out.cells.2.2.1;have cT3:x7.cell? ⟨pT,3,none⟩=some (.slice vA1 1 vc1):=HT.out.cells.2.2.2.1;have cT4:x7.cell? ⟨pT,4,none⟩=some (.slice rA1 2 rc1):=HT.out.cells.2.2.2.2;obtain⟨wi4,hwi⟩:∃ W,W=x7.alloc (.cells #[.int .i64 0,.int .i64 1,.int .i64 1] 3):=⟨_,rfl⟩
 have hri:Ints wi4 (some ⟨x7.heap.size,0,none⟩) [0,1,1]:=by rw[hwi];exact OwnI.reads (lit11a x7 0 (Nat.zero_le _) (0) (1) (1))
 have hbi:Below x7.heap.size x7 wi4:=by rw[hwi];exact below_new _ _
 have HWI:=hid hwi;clear hwi;replace HB:=hid (HB.out.trans (hbi.mono HB.out.size));replace HENV:=hid (HENV.out.ext hbi);replace HT:=hid (HT.out.ext hbi);have hcall:=next_q (hc:=hc1) (vc:=vc1) (rc:=rc1) HT.out.tb HENV.out.mat hri 3;rw[exA_next4] at hcall;have HCALL:=hid hcall;clear hcall;go_wp2_with (go_at_call 16;rw[← HWI.out];refine HCALL.out.mono ?_;intro e x8 hx;obtain⟨rfl,hb⟩:=hx;refine Hid.out ?_);refine hid ?_;replace HB:=hid (HB.out.trans (hb.mono HB.out.size));replace HENV:=hid (HENV.out.ext hb);replace HT:=hid (HT.out.ext hb);clear hb HCALL;clear cT0 cT1 cT2 cT3 cT4;clear HWI hri hbi;have cT0:x8.cell? ⟨pT,0,none⟩=some (.int .i64 2):=HT.out.cells.1;have cT1:x8.cell? ⟨pT,1,none⟩=some (.int .i64 0):=HT.out.cells.2.1;have cT2:x8.cell? ⟨pT,2,none⟩=some (.slice hA1 3 hc1):=HT.out.cells.2.2.1;have cT3:x8.cell? ⟨pT,3,none⟩=some (.slice vA1 1 vc1):=HT.out.cells.2.2.2.1;have cT4:x8.cell? ⟨pT,4,none⟩=some (.slice rA1 2 rc1):=HT.out.cells.2.2.2.2;obtain⟨wi5,hwi⟩:∃ W,W=x8.alloc (.cells #[.int .i64 0,.int .i64 1,.int .i64 0] 3):=⟨_,rfl⟩
 have hri:Ints wi5 (some ⟨x8.heap.size,0,none⟩) [0,1,0]:=by rw[hwi];exact OwnI.reads (lit11a x8 0 (Nat.zero_le _) (0) (1) (0))
 have hbi:Below x8.heap.size x8 wi5:=by rw[hwi];exact below_new _ _
 have HWI:=hid hwi;clear hwi;replace HB:=hid (HB.out.trans (hbi.mono HB.out.size));replace HENV:=hid (HENV.out.ext hbi);replace HT:=hid (HT.out.ext hbi);have hcall:=match_q (hc:=hc1) (vc:=vc1) (rc:=rc1) HT.out.tb HENV.out.mat 1 hri 3;rw[exA_match] at hcall;have HCALL:=hid hcall;clear hcall;go_wp2_with (go_at_call 14;rw[← HWI.out];refine HCALL.out.mono ?_;intro e x9 hx;obtain⟨rfl,hb⟩:=hx;refine Hid.out ?_);refine hid ?_;replace HB:=hid (HB.out.trans (hb.mono HB.out.size));replace HENV:=hid (HENV.out.ext hb);replace HT:=hid (HT.out.ext hb);clear hb HCALL;clear cT0 cT1 cT2 cT3 cT4;clear HWI hri hbi;have hcall:=neum11_any x9;have HCALL:=hid hcall;clear hcall;go_wp2_with (go_at_call 26;refine HCALL.out.mono ?_;intro e x10 hx;obtain⟨A0,c0,rfl,hp0,hb⟩:=hx;refine Hid.out ?_);refine hid ?_;replace HB:=hid (HB.out.trans (hb.mono HB.out.size));replace HENV:=hid (HENV.out.ext hb);replace HT:=hid (HT.out.ext hb);clear hb HCALL;obtain⟨yU,hw⟩:∃ W,W=((x10.alloc (.cells #[.int .i64 1,.int .i64 0,.int .i64 0,.int .i64 0,.int .i64 0] 3)).alloc (.cells #[.slice (some ⟨x10.heap.size,0,none⟩) 5 5,.int .i64 1] 48)).alloc (.cells #[.int .i64 2,.int .i64 1,.slice A0 5 c0,.slice none 0 0,.slice (some ⟨x10.heap.size+1,0,none⟩) 1 1] 26):=⟨_,rfl⟩
 obtain⟨pU,hpX⟩:∃ p,p=x10.heap.size+1+1:=⟨_,rfl⟩
 obtain⟨RX,hRX⟩:∃ b:Option Addr,b=some ⟨x10.heap.size+1,0,none⟩:=⟨_,rfl⟩
 obtain⟨hb1,hX⟩:=lit_u11 x10 yU A0 c0 hp0 hw;rw[← hRX,← hpX] at hX;rw[← hRX] at hw;clear hp0;replace HB:=hid (HB.out.trans (hb1.mono HB.out.size));replace HENV:=hid (HENV.out.ext hb1);replace HT:=hid (HT.out.ext hb1);have HU:=hid hX;clear hb1 hX;have HW:=hid (And.intro hw (And.intro hpX hRX));clear hw hpX hRX;go_upto_region 12 with fail
 rw[← HW.out.2.1,← HW.out.2.2,← HW.out.1];clear HW;have cU0:yU.cell? ⟨pU,0,none⟩=some (.int .i64 2):=HU.out.cells.1;have cU1:yU.cell? ⟨pU,1,none⟩=some (.int .i64 1):=HU.out.cells.2.1;have cU2:yU.cell? ⟨pU,2,none⟩=some (.slice A0 5 c0):=HU.out.cells.2.2.1;have cU3:yU.cell? ⟨pU,3,none⟩=some (.slice none 0 0):=HU.out.cells.2.2.2.1;have cU4:yU.cell? ⟨pU,4,none⟩=some (.slice RX 1 1):=HU.out.cells.2.2.2.2;obtain⟨wi6,hwi⟩:∃ W,W=yU.alloc (.cells #[.int .i64 0,.int .i64 0,.int .i64 0,.int .i64 1,.int .i64 0] 3):=⟨_,rfl⟩
 have hri:Ints wi6 (some ⟨yU.heap.size,0,none⟩) [0,0,0,1,0]:=by rw[hwi];exact OwnI.reads (lit11b yU 0 (Nat.zero_le _) (0) (0) (0) (1) (0))
 have hbi:Below yU.heap.size yU wi6:=by rw[hwi];exact below_new _ _
 have HWI:=hid hwi;clear hwi;replace HB:=hid (HB.out.trans (hbi.mono HB.out.size));replace HENV:=hid (HENV.out.ext hbi);replace HT:=hid (HT.out.ext hbi);replace HU:=hid (HU.out.ext hbi);have hcall:=next_q (hc:=c0) (vc:=0) (rc:=1) HU.out.tb HENV.out.mat hri 5;rw[exU_next] at hcall;have HCALL:=hid hcall;clear hcall;go_wp2_with (go_at_call 16;rw[← HWI.out];refine HCALL.out.mono ?_;intro e x11 hx;obtain⟨rfl,hb⟩:=hx;refine Hid.out ?_);refine hid ?_;replace HB:=hid (HB.out.trans (hb.mono HB.out.size));replace HENV:=hid (HENV.out.ext hb);replace HT:=hid (HT.out.ext hb);replace HU:=hid (HU.out.ext hb);clear hb HCALL;clear cU0 cU1 cU2 cU3 cU4;clear HWI hri hbi;have cU0:x11.cell? ⟨pU,0,none⟩=some (.int .i64 2):=HU.out.cells.1;have cU1:x11.cell? ⟨pU,1,none⟩=some (.int .i64 1):=HU.out.cells.2.1;have cU2:x11.cell? ⟨pU,2,none⟩=some (.slice A0 5 c0):=HU.out.cells.2.2.1;have cU3:x11.cell? ⟨pU,3,none⟩=some (.slice none 0 0):=HU.out.cells.2.2.2.1;have cU4:x11.cell? ⟨pU,4,none⟩=some (.slice RX 1 1):=HU.out.cells.2.2.2.2;have hcall:=right_q (hc:=c0) (vc:=0) (rc:=1) HU.out.tb HENV.out.mat;rw[exU_right] at hcall;have HCALL:=hid hcall;clear hcall;go_wp2_with (go_at_call 10;refine HCALL.out.mono ?_;intro e x12 hx;obtain⟨rfl,hb⟩:=hx;refine Hid.out ?_);refine hid ?_;replace HB:=hid (HB.out.trans (hb.mono HB.out.size));replace HENV:=hid (HENV.out.ext hb);replace HT:=hid (HT.out.ext hb);replace HU:=hid (HU.out.ext hb);clear hb HCALL;clear cU0 cU1 cU2 cU3 cU4;have cT0:x12.cell? ⟨pT,0,none⟩=some (.int .i64 2):=HT.out.cells.1;have cT1:x12.cell? ⟨pT,1,none⟩=some (.int .i64 0):=HT.out.cells.2.1;have cT2:x12.cell? ⟨pT,2,none⟩=some (.slice hA1 3 hc1):=HT.out.cells.2.2.1;have cT3:x12.cell? ⟨pT,3,none⟩=some (.slice vA1 1 vc1):=HT.out.cells.2.2.2.1;have cT4:x12.cell? ⟨pT,4,none⟩=some (.slice rA1 2 rc1):=HT.out.cells.2.2.2.2;have hcall:=same_q (hc:=hc1) (vc:=vc1) (rc:=rc1) HT.out.tb;have HCALL:=hid hcall;clear hcall;go_wp2_with (go_at_call 12;refine HCALL.out.mono ?_;intro e x13 hx;obtain⟨rfl,hb⟩:=hx;refine Hid.out ?_);refine hid ?_;replace HB:=hid (HB.out.trans (hb.mono HB.out.size));replace HENV:=hid (HENV.out.ext hb);replace HT:=hid (HT.out.ext hb);replace HU:=hid (HU.out.ext hb);clear hb HCALL;clear cT0 cT1 cT2 cT3 cT4;have cU0:x13.cell? ⟨pU,0,none⟩=some (.int .i64 2):=HU.out.cells.1;have cU1:x13.cell? ⟨pU,1,none⟩=some (.int .i64 1):=HU.out.cells.2.1;have cU2:x13.cell? ⟨pU,2,none⟩=some (.slice A0 5 c0):=HU.out.cells.2.2.1;have cU3:x13.cell? ⟨pU,3,none⟩=some (.slice none 0 0):=HU.out.cells.2.2.2.1;have cU4:x13.cell? ⟨pU,4,none⟩=some (.slice RX 1 1):=HU.out.cells.2.2.2.2;have hcall:=text_q (hc:=c0) (vc:=0) (rc:=1) HU.out.tb HENV.out.mat HENV.out.sym (by decide);rw[exU_text] at hcall;have HCALL:=hid hcall;clear hcall;go_wp2_with (go_at_call 20;refine HCALL.out.mono ?_;intro e x14 hx;obtain⟨rfl,hb⟩:=hx;refine Hid.out ?_);refine hid ?_;replace HB:=hid (HB.out.trans (hb.mono HB.out.size));replace HENV:=hid (HENV.out.ext hb);have Hx:=hid (HT.out.ext hb);clear HT
 have HT:=Hx;clear Hx;replace HU:=hid (HU.out.ext hb);clear hb HCALL;clear cU0 cU1 cU2 cU3 cU4;have hcall:=right_q (hA:=none) (hc:=0) (vA:=none) (vc:=0) (rA:=none) (rc:=0) tabQ_zero HENV.out.mat;rw[exZ_right] at hcall;have HCALL:=hid hcall;clear hcall;go_wp2_with (go_at_call 10;refine HCALL.out.mono ?_;intro e x15 hx;obtain⟨rfl,hb⟩:=hx;refine Hid.out ?_);refine hid ?_;replace HB:=hid (HB.out.trans (hb.mono HB.out.size));replace HENV:=hid (HENV.out.ext hb);replace HT:=hid (HT.out.ext hb);replace HU:=hid (HU.out.ext hb);clear hb HCALL;go_wp2;go_ret;exact⟨rfl,HB.out⟩
end Go.Proofs.YtcmbdhopmncmnaaGreatDoor
namespace Go.Proofs.YtcmbdhopmncmnaaGreatDoor
open Go.RowKit Go.Maps
set_option maxRecDepth 100000
set_option linter.unusedVariables false
set_option linter.unusedSimpArgs false
structure TvB (w:World)(p:Nat)(hA:Option Addr)(hc:Nat)(vA:Option Addr)(vc:Nat)(rA:Option Addr)(rc:Nat)(y:TabH):Prop where
 blk:Blk w p 26 #[.int .i64 y.st,.int .i64 y.sym,.slice hA y.hood.length hc,.slice vA y.vs.length vc,.slice rA y.rs.length rc]
 tb:TabR w hA vA rA y
section
variable {w w' : World} {p : Nat} {hA : Option Addr} {hc : Nat} {vA : Option Addr} {vc : Nat} {rA : Option Addr} {rc : Nat} {y : TabH}
theorem TvB.ext (h:TvB w p hA hc vA vc rA rc y)(hb:Below w.heap.size w w'):TvB w' p hA hc vA vc rA rc y:=⟨h.blk.ext hb,h.tb.ext hb⟩
theorem TvB.new (h:TabR w hA vA rA y):TvB (w.alloc (.cells #[.int .i64 y.st,.int .i64 y.sym,.slice hA y.hood.length hc,.slice vA y.vs.length vc,.slice rA y.rs.length rc] 26)) w.heap.size hA hc vA vc rA rc y:=⟨Blk.new _ _ _,h.ext (below_new _ _)⟩
theorem TvB.cells (h:TvB w p hA hc vA vc rA rc y):w.cell? ⟨p,0,none⟩=some (.int .i64 y.st)∧w.cell? ⟨p,1,none⟩=some (.int .i64 y.sym)∧w.cell? ⟨p,2,none⟩=some (.slice hA y.hood.length hc)∧w.cell? ⟨p,3,none⟩=some (.slice vA y.vs.length vc)∧w.cell? ⟨p,4,none⟩=some (.slice rA y.rs.length rc):=
 ⟨h.blk.cell_ 0 _ rfl,h.blk.cell_ 1 _ rfl,h.blk.cell_ 2 _ rfl,h.blk.cell_ 3 _ rfl,h.blk.cell_ 4 _ rfl⟩
end
end Go.Proofs.YtcmbdhopmncmnaaGreatDoor
namespace Go.Proofs.YtcmbdhopmncmnaaGreatDoor
set_option linter.unusedSimpArgs false
open Go.ChangeShapes Go.WideShapes Go.ChangeAt Go.RowKit Go.Deep
set_option maxRecDepth 100000
set_option linter.unusedVariables false

section
variable {H : Type} {enc : TypeId × Value → H} {P : Program}
theorem post_of_below {f:Func}{s:ChangeSpec}{apart fresh handsOn again:Bool}{W W':World}{args:Array Value}{v:Value}{ds gs:List (DataW H)}{before pa pv:List MemPlace}
  (hW:DataW.Whole enc P f.params.toList s.vars apart W args.toList ds gs before)
  (hres:∀ (b:Nat) (sp:Nat→Bool) (hd:Bool),DataW.TrodAll enc P W' b sp hd f.resultTypes.toList (v.resultList f.resultTypes.size) (s.fn H (ds ++ gs)).results [])
  (hargs:∀ sp:Nat→Bool,(∀ p ∈ before,sp p.block=true)→DataW.TrodAll enc P W' 0 sp true f.params.toList args.toList (s.fn H (ds ++ gs)).args pa)
  (hvars:∀ sp:Nat→Bool,(∀ p ∈ before,sp p.block=true)→DataW.TrodVars enc P W' sp s.vars (s.fn H (ds ++ gs)).vars pv)
  (hps:before=pa ++ pv) (hb:Below W.heap.size W W')
  (hok:∀ (j:Nat) (t:TypeId) (r:Value),f.resultTypes[j]?=some t→(v.resultList f.resultTypes.size)[j]?=some r→Value.okWide P W' .any 0 t r) :
  s.post enc P f apart fresh handsOn again W args v W':=by
 have hlt:∀ p ∈ before,p.block < W.heap.size:=fun p hp=>hW.lt p hp;have hold:∀ p ∈ before,(fun b=>decide (b < W.heap.size)) p.block=true:=fun p hp=>by simpa using hlt p hp
 refine⟨ds,gs,before,[],pa,pv,hW,hres _ _ _,hargs _ hold,hvars _ hold,World.keptBut_mono (fun p hp=>⟨hp,?_⟩) (hb.frame (· ∈ before)),fun _=>?_⟩
 ·rw[hps,List.mem_append] at hp;exact Or.inr hp
 ·obtain⟨_,_,_,_,_,hz,hn⟩:=hW;refine⟨hok,_,_,([] ++ pa) ++ pv,⟨[] ++ pa,pv,trodAll_append (hargs _ (fun _ _=>rfl)) (hres _ _ _),hvars _ (fun _ _=>rfl),rfl,?_,?_⟩,?_⟩
  ·intro b off hp;have hin:MemPlace.cell b off ∈ before:=by rw[hps];simpa using hp
   rw[hb.frozen (hlt _ hin)];exact hz b off hin
  ·intro ha;have:=hn ha;rw[hps] at this;simpa using this
  ·intro p hp _;rw[hps];simpa using hp
end
theorem Tryz.cellsInt:Tryz.prog.cellsOf 3=1:=by kernel_rfl
theorem Tryz.cellsPt:Tryz.prog.cellsOf 43=2:=by kernel_rfl
theorem Tryz.cellsIntsT:Tryz.prog.cellsOf 30=1:=by kernel_rfl
theorem Tryz.laidOut_:laidOutB Tryz.prog=true:=by kernel_rfl
theorem flat_lenO:∀ ps:List (Int × Int),(ps.flatMap ptCells).length=ps.length*2
 | []=>rfl
 | p :: r=>by rw[List.flatMap_cons,List.length_append,flat_lenO r];simp[ptCells];omega
section
variable {H : Type} {enc : TypeId × Value → H} {W : World}
theorem open_Ints {n:Nat}{v:Value}{x:DataW H × List MemPlace}(h:DataW.trod enc Tryz.prog W 0 (fun _=>true) true n 30 [v]=some x):∃ A c zs,v=.slice A (zs:List Int).length c∧Ints W A zs:=by
 rcases open_ints Tryz.underlying30 Tryz.underlying3 Tryz.cellsInt h with ⟨hcs,-⟩ | ⟨a,len,cap,zs,hcs,-,hl,hm,hz,-,hc,-⟩
 ·injection hcs with hcs
  exact⟨none,0,[],hcs,Ints.nil⟩
 ·injection hcs with hcs
  have hz':zs.length=cap:=by rw[hz];rfl
  refine⟨some a,cap,zs.take len,?_,⟨?_,fun hn=>⟨a,rfl,?_,fun j u hu=>?_⟩⟩,?_⟩
  ·rw[hcs,List.length_take,Nat.min_eq_left (by omega)]
  ·simp
  ·have h0:=hc 0 (by rw[List.length_take] at hn;omega);exact World.block_lt_of_cell? _ _ h0
  ·have hj:j < len:=by
    have:=(List.getElem?_eq_some_iff.1 hu).1;simp at this;omega
   have h1:=hc j (by omega);rw[h1];rw[List.getElem?_map,List.getElem?_take_of_lt hj,List.getElem?_eq_getElem (by omega)] at hu;have hj2:j < zs.length:=by omega
   simp[List.getD,List.getElem?_eq_getElem hj2] at hu ⊢;exact hu
  ·rw[List.length_take];unfold maxLen at hm;omega
theorem open_Pts {n:Nat}{v:Value}{x:DataW H × List MemPlace}(h:DataW.trod enc Tryz.prog W 0 (fun _=>true) true n 22 [v]=some x):∃ A c ps,v=.slice A (ps:List (Int × Int)).length c∧Pts W A ps:=by
 rcases open_slice_pairs Tryz.underlying22 Tryz.underlying43 Tryz.cellsPt rfl rfl Tryz.cellsInt Tryz.cellsInt h with ⟨hcs,-⟩ | ⟨a,len,cap,m,k,V0,V1,D0,D1,P0,P1,hcs,-,hl,hm,hmm,-,hx⟩
 ·injection hcs with hcs
  exact⟨none,0,[],hcs,Pts.nil⟩
 ·injection hcs with hcs
  have hmc:m=cap:=by rw[hmm];rfl
  have hx':∀ i,i < len→∃ p q:Int,W.cell? (a.add (i*2))=some (.int .i64 p)∧W.cell? (a.add (i*2+1))=some (.int .i64 q):=by
   intro i hi;obtain⟨g0,g1,d0,d1⟩:=hx i (by omega);obtain⟨p,e0,-,-⟩:=DataW.trod_int Tryz.underlying3 d0;obtain⟨q,e1,-,-⟩:=DataW.trod_int Tryz.underlying3 d1;injection e0 with e0
   injection e1 with e1
   rw[e0] at g0;rw[e1] at g1;exact⟨p,q,g0,g1⟩
  obtain⟨F,hF⟩:∃ F:Nat→Int × Int,∀ i,i < len→W.cell? (a.add (i*2))=some (.int .i64 (F i).1)∧W.cell? (a.add (i*2+1))=some (.int .i64 (F i).2):=by
   refine⟨fun i=>if hi:i < len then ⟨Classical.choose (hx' i hi),Classical.choose (Classical.choose_spec (hx' i hi))⟩ else (0,0),fun i hi=>?_⟩;simp only[hi,dif_pos];exact Classical.choose_spec (Classical.choose_spec (hx' i hi))
  refine⟨some a,cap,(List.range len).map F,?_,⟨?_,fun hn=>⟨a,rfl,?_,fun j u hu=>?_⟩⟩,?_⟩
  ·rw[hcs,List.length_map,List.length_range]
  ·rw[flat_lenO]
  ·have h0:=(hF 0 (by simpa using hn)).1;exact World.block_lt_of_cell? _ _ h0
  ·have hj:j < len*2:=by
    have:=(List.getElem?_eq_some_iff.1 hu).1;rw[flat_lenO] at this;simpa using this
   have hi:j / 2 < ((List.range len).map F).length:=by simp;omega
   obtain⟨f0,f1⟩:=flat2 ((List.range len).map F) (j / 2) hi;obtain⟨g0,g1⟩:=hF (j / 2) (by omega);have hg:((List.range len).map F)[j / 2]=F (j / 2):=by simp
   rw[hg] at f0 f1;rcases Nat.mod_two_eq_zero_or_one j with h2 | h2
   ·have ej:j=2*(j / 2):=by omega
    rw[ej] at hu ⊢;rw[f0] at hu;rw[Nat.mul_comm,g0];exact hu
   ·have ej:j=2*(j / 2)+1:=by omega
    rw[ej] at hu ⊢;rw[f1] at hu;rw[Nat.mul_comm,g1];exact hu
  ·rw[List.length_map,List.length_range];unfold maxLen at hm;omega
theorem open_IntsArg {r:Reach}{b0:Nat}{v:Value}{d:DataW H}{p:List MemPlace}(hv:Value.okWide Tryz.prog W r b0 30 v)(h:DataW.Trod enc Tryz.prog W 0 (fun _=>true) true 30 v d p):∃ A c zs,v=.slice A (zs:List Int).length c∧Ints W A zs:=by
 obtain⟨x,l,c,rfl⟩:=okWide_slice Tryz.underlying30 hv;obtain⟨fuel,hf⟩:=h;exact open_Ints hf
end
theorem Tryz.cellsRow:Tryz.prog.cellsOf 89=4:=by kernel_rfl
theorem Tryz.cellsMat:Tryz.prog.cellsOf 90=32:=by kernel_rfl
theorem mat_data {H:Type}:(Rows.laid_cellular_symmetry_matrices:DataW H)=.agg ((List.range 8).map fun i=>.agg ((List.range 4).map fun j=>.lit (.int .i64 (matL.getD (i*4+j) 0)))):=rfl
theorem gmat_of {w:World}(hL:laidMetH Tryz.prog Rows.ruletableRightRow.laid w):GMat w:=by
 rw [MakeChecks.laidMetH_plain _ _ _ (by kernel_rfl)] at hL; have h3 : laidMet Tryz.prog [("cellular/symmetry.matrices", Rows.laid_cellular_symmetry_matrices), ("cellular/ruletable.symNames", Rows.laid_cellular_ruletable_symNames), ("unicode/utf8.first", Rows.laid_unicode_utf8_first)] w := hL.tail.tail.tail.tail; obtain ⟨ps, ⟨g', t', cs, fuel, p, q, hg', ht', hvar, hd, -, -⟩, -⟩ := h3; have hg : Tryz.prog.globalNamed "cellular/symmetry.matrices" = some 1 := by kernel_rfl
 obtain rfl:=Option.some.inj (hg.symm.trans hg');have hty:(Tryz.prog.globals[1]?).map (·.type)=some 90:=by kernel_rfl
 obtain rfl:=Option.some.inj (hty.symm.trans ht');obtain⟨xs,m,-,hx,hlen,hxl,hel⟩:=DataW.trod_array Tryz.underlying90 hd;rw[Tryz.cellsMat] at hlen;rw[mat_data] at hx;have hx1:xs.map (·.1)=(List.range 8).map fun i=>(.agg ((List.range 4).map fun j=>.lit (.int .i64 (matL.getD (i*4+j) 0))):DataW Unit):=by
  injection hx with hx hx'
  injection hx with hx
  exact hx.symm
 have key:∀ i,i < 8→∀ j,j < 4→cs[i*4+j]?=some (.int .i64 (matL.getD (i*4+j) 0)):=by
  intro i hi j hj;have h1:=hel i hi;rw[Tryz.cellsRow] at h1;obtain⟨x,hxi⟩:∃ x,xs[i]?=some x:=⟨xs[i]'(by omega),List.getElem?_eq_getElem (by omega)⟩
  rw[hxi] at h1;have hxd:x.1=.agg ((List.range 4).map fun j=>.lit (.int .i64 (matL.getD (i*4+j) 0))):=by
   have:=congrArg (·[i]?) hx1;simp only[List.getElem?_map,hxi,List.getElem?_range hi,Option.map_some,Option.some.injEq] at this;exact this
  obtain⟨ys,m2,-,hy,hylen,hyl,hey⟩:=DataW.trod_array Tryz.underlying89 h1;have h2:=hey j hj;rw[Tryz.cellsInt] at h2;obtain⟨y,hyi⟩:∃ y,ys[j]?=some y:=⟨ys[j]'(by omega),List.getElem?_eq_getElem (by omega)⟩
  rw[hyi] at h2;have hy1:ys.map (·.1)=(List.range 4).map fun j=>(.lit (.int .i64 (matL.getD (i*4+j) 0)):DataW Unit):=by
   have:=congrArg Prod.fst hy;rw[hxd] at this;injection this with this
   exact this.symm
  have hyd:y.1=.lit (.int .i64 (matL.getD (i*4+j) 0)):=by
   have:=congrArg (·[j]?) hy1;simp only[List.getElem?_map,hyi,List.getElem?_range hj,Option.map_some,Option.some.injEq] at this;exact this
  obtain⟨z,e1,e2,-⟩:=DataW.trod_int Tryz.underlying3 h2;rw[e2] at hyd;injection hyd with hyd
  injection hyd with _ hyd
  have:=congrArg (·[0]?) e1;simp only[List.getElem?_take,List.getElem?_drop,List.getElem?_cons_zero] at this;rw[← hyd];simpa [hj] using this
 have hcell:=World.var?_cell hg hvar;have h0:w.cell? ⟨1,0,none⟩=some (.int .i64 (matL.getD 0 0)):=by
  rw[hcell 0];simpa using key 0 (by omega) 0 (by omega)
 refine⟨World.block_lt_of_cell? _ _ h0,fun i hi=>?_⟩;rw[hcell i];have:=key (i / 4) (by omega) (i % 4) (by omega);rw[show i / 4*4+i % 4=i by omega] at this;simpa using this
theorem Tryz.cellsStr11:Tryz.prog.cellsOf 9=1:=by kernel_rfl
theorem Tryz.cellsSym11:Tryz.prog.cellsOf 86=4:=by kernel_rfl
theorem sym_data {H:Type}:(Rows.laid_cellular_ruletable_symNames:DataW H)=.agg ((List.range 4).map fun j=>.lit (.string (symsW.getD j []))):=rfl
theorem symg_of {w:World}(hL:laidMetH Tryz.prog Rows.ruletableRightRow.laid w):SymG w:=by
 rw [MakeChecks.laidMetH_plain _ _ _ (by kernel_rfl)] at hL; have h3 : laidMet Tryz.prog [("cellular/ruletable.symNames", Rows.laid_cellular_ruletable_symNames), ("unicode/utf8.first", Rows.laid_unicode_utf8_first)] w := hL.tail.tail.tail.tail.tail; obtain ⟨ps, ⟨g', t', cs, fuel, p, q, hg', ht', hvar, hd, -, -⟩, -⟩ := h3; have hg : Tryz.prog.globalNamed "cellular/ruletable.symNames" = some 0 := by kernel_rfl
 obtain rfl:=Option.some.inj (hg.symm.trans hg');have hty:(Tryz.prog.globals[0]?).map (·.type)=some 86:=by kernel_rfl
 obtain rfl:=Option.some.inj (hty.symm.trans ht');obtain⟨xs,m,-,hx,hlen,hxl,hel⟩:=DataW.trod_array Tryz.underlying86 hd;rw[Tryz.cellsSym11] at hlen;rw[sym_data] at hx;have hx1:xs.map (·.1)=(List.range 4).map fun j=>(.lit (.string (symsW.getD j [])):DataW Unit):=by
  injection hx with hx hx'
  injection hx with hx
  exact hx.symm
 have key:∀ j,j < 4→cs[j]?=some (.string ⟨(symsW.getD j []).toArray⟩):=by
  intro j hj;have h2:=hel j hj;rw[Tryz.cellsStr11] at h2;obtain⟨y,hyi⟩:∃ y,xs[j]?=some y:=⟨xs[j]'(by omega),List.getElem?_eq_getElem (by omega)⟩
  rw[hyi] at h2;have hyd:y.1=.lit (.string (symsW.getD j [])):=by
   have:=congrArg (·[j]?) hx1;simp only[List.getElem?_map,hyi,List.getElem?_range hj,Option.map_some,Option.some.injEq] at this;exact this
  obtain⟨z,e1,e2,-⟩:=DataW.trod_string Tryz.underlying9 h2;rw[e2] at hyd;injection hyd with hyd
  injection hyd with hyd
  have:=congrArg (·[0]?) e1;simp only[List.getElem?_take,List.getElem?_drop,List.getElem?_cons_zero] at this;have hz:z=⟨(symsW.getD j []).toArray⟩:=by rw[← hyd]
  rw[← hz];simpa using this
 have hcell:=World.var?_cell hg hvar;have hc:∀ j,j < 4→w.cell? ⟨0,j,none⟩=some (.string ⟨(symsW.getD j []).toArray⟩):=fun j hj=>by rw[hcell j];exact key j hj
 have hl4:symsW.length=4:=by decide
 refine⟨⟨by simp[symsB],fun hn=>⟨⟨0,0,none⟩,rfl,World.block_lt_of_cell? _ _ (hc 0 (by omega)),fun j u hu=>?_⟩⟩,by simp[symsB,hl4]⟩;have hj:j < 4:=by
  have:=(List.getElem?_eq_some_iff.1 hu).1;simpa [symsB,hl4] using this
 have:=hc j hj;rw[addr_add,Nat.zero_add,this,← hu];simp[symsB,List.getElem?_map,List.getD,List.getElem?_eq_getElem (show j < symsW.length by omega)]
theorem env_of {w:World}(h:w.ShapedOpen Tryz.prog)(hL:laidMetH Tryz.prog Rows.ruletableRightRow.laid w):Env w:=by
 have hc:GCell w:=cell_of_shapedOpen_int (t:=3) (zero:=#[.int .i64 0]) h (of_decide_eq_true (by kernel_rfl)) (by kernel_rfl) rfl (by kernel_rfl) (by kernel_rfl) Tryz.underlying3;obtain⟨m,hm⟩:=hc;exact⟨⟨m,hm⟩,gmat_of hL,symg_of hL,World.block_lt_of_cell? _ _ hm⟩
theorem Tryz.cellsRowT:Tryz.prog.cellsOf 48=2:=by kernel_rfl
theorem Tryz.cellsTab:Tryz.prog.cellsOf 26=5:=by kernel_rfl
theorem Tryz.cellsPts15:Tryz.prog.cellsOf 22=1:=by kernel_rfl
theorem Tryz.cellsVrs15:Tryz.prog.cellsOf 23=1:=by kernel_rfl
theorem Tryz.cellsRws15:Tryz.prog.cellsOf 24=1:=by kernel_rfl
theorem array5 {α:Type}{cs:Array α}(h:cs.size=5):∃ c0 c1 c2 c3 c4,cs=#[c0,c1,c2,c3,c4]:=by
 obtain⟨l⟩:=cs
 match l,h with
 | [c0,c1,c2,c3,c4],_=>exact⟨c0,c1,c2,c3,c4,rfl⟩
section
variable {H : Type} {enc : TypeId × Value → H} {W : World}
theorem open_Rws {n:Nat}{v:Value}{x:DataW H × List MemPlace}(h:DataW.trod enc Tryz.prog W 0 (fun _=>true) true n 24 [v]=some x):∃ A c hs,v=.slice A (hs:List Rh).length c∧Rws W A hs:=by
 rcases open_slice Tryz.underlying24 h with ⟨hcs,-⟩ | ⟨a,len,cap,m,k,D,Pl,hcs,-,hl,hm,hmm,-,hx⟩
 ·injection hcs with hcs
  exact⟨none,0,[],hcs,Rws.nil⟩
 ·injection hcs with hcs
  have hmc:m=cap:=by rw[hmm];rfl
  have hx':∀ i,i < len→∃ q:Rh,W.cell? (a.add (i*2))=some (.slice q.A q.zs.length q.c)∧W.cell? (a.add (i*2+1))=some (.int .i64 q.out)∧Ints W q.A q.zs:=by
   intro i hi;obtain⟨cs',h1,h2⟩:=hx i (by omega);rw[Tryz.cellsRowT] at h1;obtain⟨_,hlen,hcell⟩:=World.cells?_some h1;obtain⟨xs,k2,hk,hxy,_,hxl,hf⟩:=DataW.trod_struct Tryz.underlying48 h2
   match xs,hxl,cs',hlen with
   | [y0,y1],_,[v0,v1],_=>
    have g0:=hf 0 _ rfl;have g1:=hf 1 _ rfl;simp[Tryz.cellsIntsT] at g0;simp[Tryz.cellsInt] at g1;have e0:=hcell 0 (by omega);have e1:=hcell 1 (by omega);rw[add_add] at e0 e1;obtain⟨p,r0,-,-⟩:=DataW.trod_int Tryz.underlying3 g1;injection r0 with r0
    subst r0;obtain⟨A,c,zs,rfl,hi'⟩:=open_Ints g0;exact⟨⟨A,c,zs,p⟩,by simpa using e0,by simpa using e1,hi'⟩
  obtain⟨F,hF⟩:∃ F:Nat→Rh,∀ i,i < len→W.cell? (a.add (i*2))=some (.slice (F i).A (F i).zs.length (F i).c)∧W.cell? (a.add (i*2+1))=some (.int .i64 (F i).out)∧Ints W (F i).A (F i).zs:=by
   refine⟨fun i=>if hi:i < len then Classical.choose (hx' i hi) else ⟨none,0,[],0⟩,fun i hi=>?_⟩;simp only[hi,dif_pos];exact Classical.choose_spec (hx' i hi)
  refine⟨some a,cap,(List.range len).map F,?_,⟨?_,fun hn=>⟨a,rfl,?_,fun j u hu=>?_⟩⟩,?_,?_⟩
  ·rw[hcs,List.length_map,List.length_range]
  ·rw[rh_len]
  ·have h0:=(hF 0 (by simpa using hn)).1;exact World.block_lt_of_cell? _ _ h0
  ·have hj:j < len*2:=by
    have:=(List.getElem?_eq_some_iff.1 hu).1;rw[rh_len] at this;simpa using this
   have hi:j / 2 < ((List.range len).map F).length:=by simp;omega
   obtain⟨f0,f1⟩:=rh2 ((List.range len).map F) (j / 2) hi;obtain⟨g0,g1,-⟩:=hF (j / 2) (by omega);have hg:((List.range len).map F)[j / 2]=F (j / 2):=by simp
   rw[hg] at f0 f1;rcases Nat.mod_two_eq_zero_or_one j with h2 | h2
   ·have ej:j=2*(j / 2):=by omega
    rw[ej] at hu ⊢;rw[f0] at hu;rw[Nat.mul_comm,g0];exact hu
   ·have ej:j=2*(j / 2)+1:=by omega
    rw[ej] at hu ⊢;rw[f1] at hu;rw[Nat.mul_comm,g1];exact hu
  ·rw[List.length_map,List.length_range];unfold maxLen at hm;omega
  ·intro q hq;obtain⟨i,hi,rfl⟩:=List.mem_map.1 hq;exact (hF i (by simpa using hi)).2.2
theorem open_Vrs {n:Nat}{v:Value}{x:DataW H × List MemPlace}(h:DataW.trod enc Tryz.prog W 0 (fun _=>true) true n 23 [v]=some x):∃ A c hs,v=.slice A (hs:List Vh).length c∧Vrs W A hs:=by
 rcases open_slice Tryz.underlying23 h with ⟨hcs,-⟩ | ⟨a,len,cap,m,k,D,Pl,hcs,-,hl,hm,hmm,-,hx⟩
 ·injection hcs with hcs
  exact⟨none,0,[],hcs,Vrs.nil⟩
 ·injection hcs with hcs
  have hmc:m=cap:=by rw[hmm];rfl
  have hx':∀ i,i < len→∃ q:Vh,W.cell? (a.add i)=some (.slice q.A q.zs.length q.c)∧Ints W q.A q.zs:=by
   intro i hi;obtain⟨cs',h1,h2⟩:=hx i (by omega);rw[Tryz.cellsIntsT] at h1;obtain⟨_,hlen,hcell⟩:=World.cells?_some h1
   match cs',hlen with
   | [v0],_=>
    have e0:=hcell 0 (by omega);rw[add_add] at e0;obtain⟨A,c,zs,rfl,hi'⟩:=open_Ints h2;exact⟨⟨A,c,zs⟩,by simpa using e0,hi'⟩
  obtain⟨F,hF⟩:∃ F:Nat→Vh,∀ i,i < len→W.cell? (a.add i)=some (.slice (F i).A (F i).zs.length (F i).c)∧Ints W (F i).A (F i).zs:=by
   refine⟨fun i=>if hi:i < len then Classical.choose (hx' i hi) else ⟨none,0,[]⟩,fun i hi=>?_⟩;simp only[hi,dif_pos];exact Classical.choose_spec (hx' i hi)
  refine⟨some a,cap,(List.range len).map F,?_,⟨?_,fun hn=>⟨a,rfl,?_,fun j u hu=>?_⟩⟩,?_,?_⟩
  ·rw[hcs,List.length_map,List.length_range]
  ·rw[vh_len]
  ·have h0:=(hF 0 (by simpa using hn)).1;exact World.block_lt_of_cell? _ _ h0
  ·have hj:j < len:=by
    have:=(List.getElem?_eq_some_iff.1 hu).1;rw[vh_len] at this;simpa using this
   have f0:=vh1 ((List.range len).map F) j (by simpa using hj);have hg:((List.range len).map F)[j]'(by simpa using hj)=F j:=by simp
   rw[hg] at f0;rw[f0] at hu;rw[(hF j hj).1];exact hu
  ·rw[List.length_map,List.length_range];unfold maxLen at hm;omega
  ·intro q hq;obtain⟨i,hi,rfl⟩:=List.mem_map.1 hq;exact (hF i (by simpa using hi)).2
theorem open_TabArg {r:Reach}{b0:Nat}{v:Value}{d:DataW H}{p:List MemPlace}(hv:Value.okWide Tryz.prog W r b0 26 v)(h:DataW.Trod enc Tryz.prog W 0 (fun _=>true) true 26 v d p) :
  ∃ (t:TabH) (hA vA rA:Option Addr) (hc vc rc:Nat),v=tabV hA hc vA vc rA rc t∧TabR W hA vA rA t:=by
 obtain⟨cs,rfl,hsz⟩:=okWide_struct Tryz.underlying26 hv;obtain⟨c0,c1,c2,c3,c4,rfl⟩:=array5 (hsz.trans Tryz.cellsTab);obtain⟨fuel,hf⟩:=h;obtain⟨xs,k2,hk,hxy,_,hxl,hg⟩:=DataW.trod_struct Tryz.underlying26 hf
 match xs,hxl with
 | [y0,y1,y2,y3,y4],_=>
  have g0:=hg 0 _ rfl;have g1:=hg 1 _ rfl;have g2:=hg 2 _ rfl;have g3:=hg 3 _ rfl;have g4:=hg 4 _ rfl;simp[Value.cells,Tryz.cellsInt] at g0 g1;simp[Value.cells,Tryz.cellsPts15] at g2;simp[Value.cells,Tryz.cellsVrs15] at g3;simp[Value.cells,Tryz.cellsRws15] at g4;obtain⟨s,e0,-,-⟩:=DataW.trod_int Tryz.underlying3 g0;injection e0 with e0
  subst e0;obtain⟨m,e1,-,-⟩:=DataW.trod_int Tryz.underlying3 g1;injection e1 with e1
  subst e1;obtain⟨hA,hc,ps,rfl,hp⟩:=open_Pts g2;obtain⟨vA,vc,vs,rfl,hv'⟩:=open_Vrs g3;obtain⟨rA,rc,rs,rfl,hr⟩:=open_Rws g4;exact⟨⟨s,m,ps,vs,rs⟩,hA,vA,rA,hc,vc,rc,rfl,hp,hv',hr⟩
end
end Go.Proofs.YtcmbdhopmncmnaaGreatDoor
namespace Go.Proofs.YtcmbdhopmncmnaaGreatDoor
set_option linter.unusedSimpArgs false
set_option linter.unusedVariables false
open Go.ChangeShapes Go.WideShapes Go.ChangeAt Go.RowKit
set_option maxRecDepth 1000000

noncomputable def laidW (os:Os):World:=World.laidAll Tryz.prog os Rows.ruletableRightRow.laid
theorem laidW_os (os:Os):(laidW os).os=os:=World.laidAll_os _ _ _
theorem laidW_shaped (os:Os)(args:Array Value):((laidW os).forCall (fun _ _=>0) ⟨#[],args,[]⟩).Shaped Tryz.prog:=World.shaped_of_ZipB (by kernel_rfl) (by kernel_rfl)
theorem laidW_met (os:Os)(args:Array Value):laidMetH Tryz.prog Rows.ruletableRightRow.laid ((laidW os).forCall (fun _ _=>0) ⟨#[],args,[]⟩).memory:=by
 rw[MakeChecks.laidMetH_plain _ _ _ (by kernel_rfl)];exact laidMet_laidAll _ (by kernel_rfl) (by kernel_rfl)
theorem laidW_witness {H:Type}{enc:TypeId × Value→H}{f:FuncId}{fn:Func}{s:OpenSpec}{conds:List PathCond}{apart:Bool}(os:Os)(args:Array Value)
  (hok:Input.okWideB Tryz.checked.prog ((laidW os).forCall (fun _ _=>0) ⟨#[],args,[]⟩) f ⟨#[],args,[]⟩=true)
  (hrow:s.preRow enc Tryz.checked.prog fn conds apart Rows.ruletableRightRow.laid ((laidW os).forCall (fun _ _=>0) ⟨#[],args,[]⟩).memory args) :
  ∃ (w:World) (tape:Tape) (i:Input),w.os=os∧(w.forCall tape i).Shaped Tryz.checked.prog∧i.vars=[]∧Input.okWide Tryz.checked.prog (w.forCall tape i) .any w.heap.size f i∧
   s.preRow enc Tryz.checked.prog fn conds apart Rows.ruletableRightRow.laid (w.forCall tape i).memory i.args∧({}:Assume).holds Tryz.checked.prog (lone (Frame.enter Tryz.checked.prog f i.args .normal) [] (w.forCall tape i)):=
 ⟨laidW os,fun _ _=>0,⟨#[],args,[]⟩,laidW_os os,laidW_shaped os args,(Input.okWide_of_okWideB (base:=0) hok).1,(Input.okWide_of_okWideB hok).2,hrow,by
  simp only[Assume.holds];exact⟨by simp,by simp,fun _=>Modest.zero,by simp,by simp⟩⟩
end Go.Proofs.YtcmbdhopmncmnaaGreatDoor
