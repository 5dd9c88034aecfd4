/-
  texts RunsR Name: parts of the proof; conditions stand with each theorem.
-/
import Derived.Test.YtcfelnhmifkelaaGreatDoorUG3
import Derived.Test.YtcfelnhmifkelaaGreatDoorUG0
import Derived.Test.YtcfelnhmifkelaaGreatDoorUShelf
import Derived.Laws.RangeAny
import Derived.Laws.Strings3
namespace Go.Proofs.YtcfelnhmifkelaaGreatDoor
open Lib(hid)
open Go.RowKit
set_option maxRecDepth 100000
set_option linter.unusedVariables false
set_option linter.unusedSimpArgs false

def RetRuns (ps:List Cel)(w:World)(e:Ending)(w':World):Prop:=∃ A c,e=.returned (.tuple #[.slice A (runsL ps).length c,.int .i64 (if rightC ps then 0 else 2)])∧Pts w' A (runsL ps)∧NewA w.heap.size A∧Below w.heap.size w w'
theorem runsL_wrong {ps:List Cel}(h:rightC ps=false):runsL ps=[]:=by
 unfold runsL;rw[if_neg];intro hb;rw[(box_bd hb).1] at h;cases h
theorem RetRuns.wrong {ps:List Cel}{w w':World}(h:rightC ps=false)(hb:Below w.heap.size w w'):RetRuns ps w (.returned (.tuple #[.slice none 0 0,.int .i64 2])) w':=by
 unfold RetRuns;rw[runsL_wrong h,h];exact⟨none,0,rfl,Pts.nil,NewA.none_ _,hb⟩
theorem RetRuns.right {ps:List Cel}{w w':World}{A:Option Addr}{c:Nat}{l:List (Int × Int)} (h:rightC ps=true)(e:runsL ps=l)(hp:Pts w' A l)(hn:NewA w.heap.size A)(hb:Below w.heap.size w w'):RetRuns ps w (.returned (.tuple #[.slice A l.length c,.int .i64 0])) w':=by
 subst e;unfold RetRuns;rw[h];exact⟨A,c,rfl,hp,hn,hb⟩
set_option maxHeartbeats 16000000 in
theorem rRuns_any (A:Option Addr)(c:Nat)(ps:List Cel)(w:World)(ha:Cls w A ps) :
  Calls Tryz.prog 115 #[.slice A ps.length c] w (RetRuns ps w):=by
 have hn:=ha.le;have HR0:=hid (rright_any A c ps w ha);cases hr:rightC ps
 ·have HRT:=hid hr;rw[hr] at HR0;clear hr;go_enter Tryz.func115,Tryz.ntmps115;go_wp2_with fail;refine HR0.out.mono ?_;rintro e w1 ⟨rfl,hb1⟩;have HB1:=hid hb1;clear hb1;go_wp2;refine bodyPost_ret (v:=.tuple #[.slice none 0 0,.int .i64 2]) (by simp[results,Tryz.results115,go_sem]) rfl ?_;exact RetRuns.wrong HRT.out HB1.out
 have hp:=right_bd hr;have HLA:=hid (fun bx k hk=>runs_last (bx:=bx) (ps:=ps) hr k hk);have HP:=hid hp;have HL5:Hid (ps.length≤5000):=hid (by have h:=hr;unfold rightC at h;simp only[Bool.and_eq_true,decide_eq_true_eq] at h;exact h.1);have HRT:=hid hr;have HBH:=hid (fun h=>box_hd (ps:=ps) h);have HBD:=hid (fun h=>box_bd (ps:=ps) h);have HRL:Hid (runsL ps=if (boxC ps).2 then (runsSt (boxC ps).1.x (boxC ps).1.y ps ps.length).out else []):=hid rfl;have HBX:=hid (fun w' hb=>rbox_any A c ps w' (ha.ext hb));rw[box_eq] at HBX;have HBN:Hid ((boxC ps).2=false→ps=[]):=hid (by
  intro h;unfold boxC at h
  split at h
  ·cases h
  ·rename_i hc;apply Classical.byContradiction;intro h0;exact hc ⟨h0,hr⟩)
 rw[hr] at HR0;clear hr hp;obtain⟨qq,hq⟩:∃ q,q=boxC ps:=⟨_,rfl⟩
 rw[← hq] at HBX HBH HRL HBN HBD;clear hq;obtain⟨bb,ok⟩:=qq;obtain⟨bx,y0,bw,bh⟩:=bb;unfold bxV at HBX;dsimp only at HBX HBH HRL HBN HBD;cases ok
 ·have HN:Hid (runsL ps=[]):=hid HRL.out;have h0:=HBN.out rfl;have HLT:Hid (ps.length=0):=hid (by rw[h0];rfl);clear HRL HBN HBD h0 HBH HP HLA;go_enter Tryz.func115,Tryz.ntmps115;go_wp2_with fail;refine HR0.out.mono ?_;rintro e w1 ⟨rfl,hb1⟩;have HB1:=hid hb1;clear hb1;have HBX1:=hid (HBX.out w1 HB1.out);go_wp2_with fail;refine HBX1.out.mono ?_;rintro e w2 ⟨rfl,hb2⟩;have br0:=Blk.new w2 73 #[.int .i64 bx,.int .i64 y0,.int .i64 bw,.int .i64 bh];have hba:=(HB1.out.trans (hb2.mono HB1.out.size)).alloc (Nat.le_trans HB1.out.size hb2.size) (.cells #[.int .i64 bx,.int .i64 y0,.int .i64 bw,.int .i64 bh] 73);obtain⟨w3,hw3⟩:∃ w3,w3=w2.alloc (.cells #[.int .i64 bx,.int .i64 y0,.int .i64 bw,.int .i64 bh] 73):=⟨_,rfl⟩
  rw[← hw3] at br0 hba;have q0:=br0.cell_ 0 (.int .i64 bx) rfl;have q1:=br0.cell_ 1 (.int .i64 y0) rfl;have HB3:=hid hba;have HW3:=hid hw3;clear hb2 br0 hba hw3;go_upto_region 5 with fail
  rw[← HW3.out];go_quiet (fail)
  have HB4:=hid (below_drewN HB3.out nq);clear q0 q1 HB3 HW3;generalize w3.drewN nq=w4 at *;have hlt:=HLT.out;go_wp2;go_loopw [4,9] (fun v i wr=>v=.slice none 0 0∧i=.int .i64 0∧wr=w4) (fun _ _ _=>0)
  case atStart=>exact⟨rfl,rfl,rfl⟩
  case round=>
   obtain⟨rfl,rfl,rfl⟩:=hrel;go_wp2;refine bodyPost_ret (v:=.tuple #[.slice none 0 0,.int .i64 0]) (by simp[results,Tryz.results115,go_sem]) rfl ?_;exact RetRuns.right (l:=[]) HRT.out HN.out Pts.nil (NewA.none_ _) HB4.out
 have HF:Hid (runsL ps=(runsSt bx y0 ps ps.length).out):=hid HRL.out;have bd:=HBD.out rfl;have hy0:=HBH.out rfl;rw[← hy0] at HLA;have HK:=hid (fun k hk=>runs_ok (ps:=ps) HP.out bd.2.2.1 bd.2.2.2 k hk);have HBB:=hid (And.intro bd.2.2.1 bd.2.2.2);clear bd HBD HRL HBN HBH hy0;go_enter Tryz.func115,Tryz.ntmps115;go_wp2_with fail;refine HR0.out.mono ?_;rintro e wz0 ⟨rfl,hb1⟩;have HB1:=hid hb1;clear hb1;have HBX1:=hid (HBX.out wz0 HB1.out);go_wp2_with fail;refine HBX1.out.mono ?_;rintro e w1 ⟨rfl,hb2⟩;have br0:=Blk.new w1 73 #[.int .i64 bx,.int .i64 y0,.int .i64 bw,.int .i64 bh];have hba:=(HB1.out.trans (hb2.mono HB1.out.size)).alloc (Nat.le_trans HB1.out.size hb2.size) (.cells #[.int .i64 bx,.int .i64 y0,.int .i64 bw,.int .i64 bh] 73);obtain⟨w2,hw2⟩:∃ w2,w2=w1.alloc (.cells #[.int .i64 bx,.int .i64 y0,.int .i64 bw,.int .i64 bh] 73):=⟨_,rfl⟩
 rw[← hw2] at br0 hba;have q0:=br0.cell_ 0 (.int .i64 bx) rfl;have q1:=br0.cell_ 1 (.int .i64 y0) rfl;have HW2:=hid hw2;have HBR:=hid br0;have HB2:=hid hba;clear hw2 br0 hba hb2;go_upto_region 5 with fail
 rw[← HW2.out];go_quiet (fail)
 have HBR3:=hid (HBR.out.drewN nq);have HB3:=hid (below_drewN HB2.out nq);clear q0 q1 HBR HB2 HW2;generalize w2.drewN nq=w3 at *;go_wp2;go_loopw [4,7,8,9] (fun v x y i wr=>∃ k:Nat,k≤ps.length∧i=.int .i64 k∧x=.int .i64 (runsSt bx y0 ps k).x∧y=.int .i64 (runsSt bx y0 ps k).y∧Hid (OwnP 107 wr w3.heap.size v (runsSt bx y0 ps k).out)∧Hid (Below w3.heap.size w3 wr)) (fun _ _ _ i _=>ps.length - (intOf i).toNat)
 case atStart=>exact⟨0,Nat.zero_le _,rfl,rfl,rfl,hid (OwnP.nil _ _ _),hid (Below.refl _ _)⟩
 case round=>
  obtain⟨k,hk,rfl,rfl,rfl,HO,HB⟩:=hrel;have HBW:=hid (HB3.out.trans (HB.out.mono HB3.out.size));by_cases hlt:k < ps.length
  ·obtain⟨b1,o1,e1,-,hc0,hc1,hc2⟩:=(ha.ext HBW.out).at_ hlt;have HE1:=hid e1;obtain⟨A2,a2,hv,hpt,hnew⟩:=HO.out.pts;obtain⟨pv,hpv⟩:∃ pv,pv=ps[k - 1]'(by omega):=⟨_,rfl⟩
   have hLA:0 < k→LastIs (runsSt bx y0 ps k) pv:=by
    intro h0;have h:=(HLA.out bx (k - 1) (by omega)).2;rw[← hpv] at h;rwa [show k - 1+1=k by omega] at h
   have hLB:=(HLA.out bx k hlt).1;have HPZ0:k=0→(runsSt bx y0 ps k).out=[]:=by intro h;subst h;rfl
   obtain⟨t,ht⟩:∃ t,t=runsSt bx y0 ps k:=⟨_,rfl⟩
   have HT:Hid (runsSt bx y0 ps (k+1)=stepR bx t ps[k]):=hid (by rw[ht];exact runs_snoc bx y0 hlt);have tok:=HK.out k hk;have bc:=HP.out ps[k] (List.getElem_mem hlt);rw[← ht] at HO tok hv hpt hLA hLB HPZ0 ⊢;have HPZ:=hid HPZ0;obtain⟨cx,hcx⟩:∃ cx,cx=ps[k]:=⟨_,rfl⟩
   rw[← hcx] at hc0 hc1 hc2 HT bc hLB;have HPV:Hid ((ps[k - 1]'(by omega)=pv)∧(0 < k→t.x=pv.x+1∧pv.y=t.y∧∃ m,t.out.getLast?=some (m,pv.s))∧(0 < k→pv.y=t.y)):=hid ⟨hpv.symm,fun h=>⟨(hLA h).1,(hLA h).2.1.symm,(hLA h).2.2⟩,fun h=>(hLA h).2.1.symm⟩;clear ht hcx hLA hLB hpv HPZ0;have hk5:=HL5.out;have hnb:=below_new wr (.cells #[.int .i64 cx.x,.int .i64 cx.y,.int .i64 cx.s] 114);obtain⟨wb,hwb⟩:∃ wb,wb=wr.alloc (.cells #[.int .i64 cx.x,.int .i64 cx.y,.int .i64 cx.s] 114):=⟨_,rfl⟩
   have p0:=Blk.new wr 114 #[.int .i64 cx.x,.int .i64 cx.y,.int .i64 cx.s];rw[← hwb] at hnb p0;have HOb:=hid (HO.out.ext hnb);have HBb:=hid (HB.out.trans (hnb.mono HB.out.size));have HPb:=hid p0;have HW:=hid hwb;have HWN:=hid (And.intro tok (And.intro bc hk5));clear HO HB hwb p0 hnb hpt hnew;have hyL:wrap64 (cx.y - t.y)=cx.y - t.y:=by have h1:=HWN.out.1.y0;have h2:=HWN.out.1.y1;have h3:=HWN.out.2.1.2.1;unfold wrap64;omega
   by_cases hL:t.y < cx.y
   ·have dL:decide (t.y < cx.y)=true:=decide_eq_true hL;have HLL:=hid hL;clear hL;subst e1;have xa0:=HPb.out.cell_ 0 (.int .i64 cx.x) rfl;have xa1:=HPb.out.cell_ 1 (.int .i64 cx.y) rfl;have xa2:=HPb.out.cell_ 2 (.int .i64 cx.s) rfl
    go_upto_if 36 with fail
    rw[← HW.out];have hlen1:(t.out).length < 4294967296:=by have h1:=HWN.out.1.n;have h2:=HWN.out.2.2;omega
    have hbs1:w3.heap.size≤wb.heap.size:=HBb.out.size;go_wp2_with (at_builtin;refine wpList_pushPB rfl _ _ _ rfl w3.heap.size 107 Tryz.underlying105 Tryz.infoRun _ (t.out) rfl HOb.out _ _ rfl hlen1 hbs1 ?_);intro v1 wp1 ho1 hbl1 hkp1;obtain⟨l1,hl1⟩:∃ l1,l1=t.out ++ [(cx.y - t.y,-1)]:=⟨_,rfl⟩
    have HO1:Hid (OwnP 107 wp1 w3.heap.size v1 l1):=hid (by rw[hl1];exact ho1);have hn1:l1.length=(t.out).length+1:=by rw[hl1];simp
    have HLE1:=hid hl1;have HLN1:=hid hn1;clear hl1 hn1;have HB1':=hid (HBb.out.trans hbl1);have HP1:=hid (hkp1 _ 114 _ (by decide) HPb.out);clear ho1 hbl1 hkp1 hlen1 hbs1;clear xa0 xa1 xa2;have ya0:=HP1.out.cell_ 0 (.int .i64 cx.x) rfl;have ya1:=HP1.out.cell_ 1 (.int .i64 cx.y) rfl;have ya2:=HP1.out.cell_ 2 (.int .i64 cx.s) rfl;have yax:=(HBR3.out.below HB1'.out HBR3.out.lt).cell_ 0 (.int .i64 bx) rfl;go_upto_region 14 with fail
    clear yax;clear ya0 ya1 ya2;have hxG:wrap64 (cx.x - bx)=cx.x - bx:=by have h1:=HWN.out.1.x0;have h2:=HWN.out.1.x1;have h3:=HWN.out.2.1.1;have h4:=HBB.out.1;unfold wrap64;omega
    have g0:=HP1.out.cell_ 0 (.int .i64 cx.x) rfl;have g1:=HP1.out.cell_ 1 (.int .i64 cx.y) rfl;have g2:=HP1.out.cell_ 2 (.int .i64 cx.s) rfl;by_cases hG:bx < cx.x
    ·have dG:decide (bx < cx.x)=true:=decide_eq_true hG;have HG:=hid hG;clear hG;have hlen2:(l1).length < 4294967296:=by have h1:=HWN.out.1.n;have h2:=HWN.out.2.2;have:=HLN1.out;omega
     have hbs2:w3.heap.size≤wp1.heap.size:=HB1'.out.size;go_wp2_with (at_builtin;refine wpList_pushPB rfl _ _ _ rfl w3.heap.size 107 Tryz.underlying105 Tryz.infoRun _ (l1) rfl HO1.out _ _ rfl hlen2 hbs2 ?_);intro v2 wp2 ho2 hbl2 hkp2;obtain⟨l2,hl2⟩:∃ l2,l2=l1 ++ [(cx.x - bx,0)]:=⟨_,rfl⟩
     have HO2:Hid (OwnP 107 wp2 w3.heap.size v2 l2):=hid (by rw[hl2];exact ho2);have hn2:l2.length=(l1).length+1:=by rw[hl2];simp
     have HLE2:=hid hl2;have HLN2:=hid hn2;clear hl2 hn2;have HB2':=hid (HB1'.out.trans hbl2);have HP2:=hid (hkp2 _ 114 _ (by decide) HP1.out);clear ho2 hbl2 hkp2 hlen2 hbs2;clear g0 g1 g2;have hll:l2.length≤20000:=by have h1:=HWN.out.1.n;have h2:=HWN.out.2.2;have:=HLN1.out;have:=HLN2.out;omega
     obtain⟨Ar,ar,hvr,hptr,hnr⟩:=HO2.out.pts;subst hvr;have hpos:0 < l2.length:=by have:=HLN2.out;omega
     have dX:(cx.x == bx)=false:=by have:=HG.out;simp;omega
     have HI:Hid (incs ⟨l2,bx,cx.y⟩ bx cx=false):=hid (by unfold incs;rw[HLE2.out];have:=HG.out;simp;intro h;omega);clear hptr hnr;by_cases hkn:0 < k
     ·have hk1:0 < k:=hkn;have dk1:decide (0 < k)=true:=decide_eq_true hkn;clear HPV;have f0:=HP2.out.cell_ 0 (.int .i64 cx.x) rfl;have f1:=HP2.out.cell_ 1 (.int .i64 cx.y) rfl;have f2:=HP2.out.cell_ 2 (.int .i64 cx.s) rfl;go_upto_region 16 with fail
      go_quiet (fail)
      clear f0 f1 f2;have HOq21:=hid (HO2.out.drewN nq);have HBq21:=hid (below_drewN HB2'.out nq);have HPq21:=hid (HP2.out.drewN nq);generalize wp2.drewN nq=wq21 at *;have HST:=hid (step_of (bx:=bx) (t:=t) (a:=⟨l1,bx,cx.y⟩) (g:=⟨l2,bx,cx.y⟩) (c:=cx) (b:=false) (by unfold lineE;rw[if_pos HLL.out,HLE1.out]) (by unfold gapE;(try dsimp only);rw[if_pos HG.out,HLE2.out]) (HI.out));have h0:=HPq21.out.cell_ 0 (.int .i64 cx.x) rfl;have h1:=HPq21.out.cell_ 1 (.int .i64 cx.y) rfl;have h2:=HPq21.out.cell_ 2 (.int .i64 cx.s) rfl;have hlen3:(l2).length < 4294967296:=by have h1:=HWN.out.1.n;have h2:=HWN.out.2.2;have:=HLN1.out;have:=HLN2.out;omega
      have hbs3:w3.heap.size≤wq21.heap.size:=HBq21.out.size;go_wp2_with (at_builtin;refine wpList_pushPB rfl _ _ _ rfl w3.heap.size 107 Tryz.underlying105 Tryz.infoRun _ (l2) rfl HOq21.out _ _ rfl hlen3 hbs3 ?_);intro v3 wp3 ho3 hbl3 hkp3;obtain⟨l3,hl3⟩:∃ l3,l3=l2 ++ [(1,cx.s)]:=⟨_,rfl⟩
      have HO3:Hid (OwnP 107 wp3 w3.heap.size v3 l3):=hid (by rw[hl3];exact ho3);have hn3:l3.length=(l2).length+1:=by rw[hl3];simp
      have HLE3:=hid hl3;have HLN3:=hid hn3;clear hl3 hn3;have HB3':=hid (HBq21.out.trans hbl3);have HP3:=hid (hkp3 _ 114 _ (by decide) HPq21.out);clear ho3 hbl3 hkp3 hlen3 hbs3;clear h0 h1 h2;have hwx:wrap64 (cx.x+1)=cx.x+1:=by have:=HWN.out.2.1.1;unfold wrap64;omega
      have z0:=HP3.out.cell_ 0 (.int .i64 cx.x) rfl;have z1:=HP3.out.cell_ 1 (.int .i64 cx.y) rfl;have z2:=HP3.out.cell_ 2 (.int .i64 cx.s) rfl;go_wp2;go_roundw
      case rel=>
       refine⟨k+1,by omega,by go_num,by rw[HT.out,HST.out],by rw[HT.out,HST.out],?_,HB3'⟩;have hx:=HO3.out;rw[HLE3.out] at hx;rw[HT.out,HST.out];exact hid hx
      case measure=>simp[intOf];omega
     ·have dk1:decide (0 < k)=false:=decide_eq_false hkn;clear HPV;have f0:=HP2.out.cell_ 0 (.int .i64 cx.x) rfl;have f1:=HP2.out.cell_ 1 (.int .i64 cx.y) rfl;have f2:=HP2.out.cell_ 2 (.int .i64 cx.s) rfl;go_upto_region 16 with fail
      go_quiet (fail)
      clear f0 f1 f2;have HOq21:=hid (HO2.out.drewN nq);have HBq21:=hid (below_drewN HB2'.out nq);have HPq21:=hid (HP2.out.drewN nq);generalize wp2.drewN nq=wq21 at *;have HST:=hid (step_of (bx:=bx) (t:=t) (a:=⟨l1,bx,cx.y⟩) (g:=⟨l2,bx,cx.y⟩) (c:=cx) (b:=false) (by unfold lineE;rw[if_pos HLL.out,HLE1.out]) (by unfold gapE;(try dsimp only);rw[if_pos HG.out,HLE2.out]) (HI.out));have h0:=HPq21.out.cell_ 0 (.int .i64 cx.x) rfl;have h1:=HPq21.out.cell_ 1 (.int .i64 cx.y) rfl;have h2:=HPq21.out.cell_ 2 (.int .i64 cx.s) rfl;have hlen3:(l2).length < 4294967296:=by have h1:=HWN.out.1.n;have h2:=HWN.out.2.2;have:=HLN1.out;have:=HLN2.out;omega
      have hbs3:w3.heap.size≤wq21.heap.size:=HBq21.out.size;go_wp2_with (at_builtin;refine wpList_pushPB rfl _ _ _ rfl w3.heap.size 107 Tryz.underlying105 Tryz.infoRun _ (l2) rfl HOq21.out _ _ rfl hlen3 hbs3 ?_);intro v3 wp3 ho3 hbl3 hkp3;obtain⟨l3,hl3⟩:∃ l3,l3=l2 ++ [(1,cx.s)]:=⟨_,rfl⟩
      have HO3:Hid (OwnP 107 wp3 w3.heap.size v3 l3):=hid (by rw[hl3];exact ho3);have hn3:l3.length=(l2).length+1:=by rw[hl3];simp
      have HLE3:=hid hl3;have HLN3:=hid hn3;clear hl3 hn3;have HB3':=hid (HBq21.out.trans hbl3);have HP3:=hid (hkp3 _ 114 _ (by decide) HPq21.out);clear ho3 hbl3 hkp3 hlen3 hbs3;clear h0 h1 h2;have hwx:wrap64 (cx.x+1)=cx.x+1:=by have:=HWN.out.2.1.1;unfold wrap64;omega
      have z0:=HP3.out.cell_ 0 (.int .i64 cx.x) rfl;have z1:=HP3.out.cell_ 1 (.int .i64 cx.y) rfl;have z2:=HP3.out.cell_ 2 (.int .i64 cx.s) rfl;go_wp2;go_roundw
      case rel=>
       refine⟨k+1,by omega,by go_num,by rw[HT.out,HST.out],by rw[HT.out,HST.out],?_,HB3'⟩;have hx:=HO3.out;rw[HLE3.out] at hx;rw[HT.out,HST.out];exact hid hx
      case measure=>simp[intOf];omega
    ·have dG:decide (bx < cx.x)=false:=decide_eq_false hG;have HG:=hid hG;clear hG;have hll:l1.length≤20000:=by have h1:=HWN.out.1.n;have h2:=HWN.out.2.2;have:=HLN1.out;omega
     obtain⟨Ar,ar,hvr,hptr,hnr⟩:=HO1.out.pts;subst hvr;have hpos:0 < l1.length:=by have:=HLN1.out;omega
     have HI:Hid (incs ⟨l1,bx,cx.y⟩ bx cx=false):=hid (by unfold incs;rw[HLE1.out];have:=HWN.out.2.1.2.2;simp;intro h;omega);clear hptr hnr;by_cases hkn:0 < k
     ·have hk1:0 < k:=hkn;have dk1:decide (0 < k)=true:=decide_eq_true hkn;by_cases hX:cx.x=bx
      ·have dX:(cx.x == bx)=true:=by simp[hX]
       have dY:(pv.y == cx.y)=false:=by have:=HPV.out.2.2 hk1;have h:=HLL.out;simp;omega
       clear hX;obtain⟨bq,oq,eq0,-,hq0,hq1,hq2⟩:=(ha.ext (HB3.out.trans (HB1'.out.mono HB3.out.size))).at_ (k:=k - 1) (by omega);injection eq0 with eq0
       injection eq0 with eq1 eq2
       subst eq1 eq2;rw[HPV.out.1] at hq0 hq1 hq2;have f0:=HP1.out.cell_ 0 (.int .i64 cx.x) rfl;have f1:=HP1.out.cell_ 1 (.int .i64 cx.y) rfl;have f2:=HP1.out.cell_ 2 (.int .i64 cx.s) rfl;go_upto_region 16 with fail
       go_quiet (fail)
       clear f0 f1 f2;have HOq11:=hid (HO1.out.drewN nq);have HBq11:=hid (below_drewN HB1'.out nq);have HPq11:=hid (HP1.out.drewN nq);generalize wp1.drewN nq=wq11 at *;clear hq0 hq1 hq2;have HST:=hid (step_of (bx:=bx) (t:=t) (a:=⟨l1,bx,cx.y⟩) (g:=⟨l1,bx,cx.y⟩) (c:=cx) (b:=false) (by unfold lineE;rw[if_pos HLL.out,HLE1.out]) (by unfold gapE;(try dsimp only);rw[if_neg (by have:=HG.out;first | omega | (dsimp only;omega))]) (HI.out));have h0:=HPq11.out.cell_ 0 (.int .i64 cx.x) rfl;have h1:=HPq11.out.cell_ 1 (.int .i64 cx.y) rfl;have h2:=HPq11.out.cell_ 2 (.int .i64 cx.s) rfl;have hlen2:(l1).length < 4294967296:=by have h1:=HWN.out.1.n;have h2:=HWN.out.2.2;have:=HLN1.out;omega
       have hbs2:w3.heap.size≤wq11.heap.size:=HBq11.out.size;go_wp2_with (at_builtin;refine wpList_pushPB rfl _ _ _ rfl w3.heap.size 107 Tryz.underlying105 Tryz.infoRun _ (l1) rfl HOq11.out _ _ rfl hlen2 hbs2 ?_);intro v2 wp2 ho2 hbl2 hkp2;obtain⟨l2,hl2⟩:∃ l2,l2=l1 ++ [(1,cx.s)]:=⟨_,rfl⟩
       have HO2:Hid (OwnP 107 wp2 w3.heap.size v2 l2):=hid (by rw[hl2];exact ho2);have hn2:l2.length=(l1).length+1:=by rw[hl2];simp
       have HLE2:=hid hl2;have HLN2:=hid hn2;clear hl2 hn2;have HB2':=hid (HBq11.out.trans hbl2);have HP2:=hid (hkp2 _ 114 _ (by decide) HPq11.out);clear ho2 hbl2 hkp2 hlen2 hbs2;clear h0 h1 h2;have hwx:wrap64 (cx.x+1)=cx.x+1:=by have:=HWN.out.2.1.1;unfold wrap64;omega
       have z0:=HP2.out.cell_ 0 (.int .i64 cx.x) rfl;have z1:=HP2.out.cell_ 1 (.int .i64 cx.y) rfl;have z2:=HP2.out.cell_ 2 (.int .i64 cx.s) rfl;go_wp2;go_roundw
       case rel=>
        refine⟨k+1,by omega,by go_num,by rw[HT.out,HST.out],by rw[HT.out,HST.out],?_,HB2'⟩;have hx:=HO2.out;rw[HLE2.out] at hx;rw[HT.out,HST.out];exact hid hx
       case measure=>simp[intOf];omega
      ·have dX:(cx.x == bx)=false:=by simpa using hX
       clear hX;have f0:=HP1.out.cell_ 0 (.int .i64 cx.x) rfl;have f1:=HP1.out.cell_ 1 (.int .i64 cx.y) rfl;have f2:=HP1.out.cell_ 2 (.int .i64 cx.s) rfl;go_upto_region 16 with fail
       go_quiet (fail)
       clear f0 f1 f2;have HOq11:=hid (HO1.out.drewN nq);have HBq11:=hid (below_drewN HB1'.out nq);have HPq11:=hid (HP1.out.drewN nq);generalize wp1.drewN nq=wq11 at *;have HST:=hid (step_of (bx:=bx) (t:=t) (a:=⟨l1,bx,cx.y⟩) (g:=⟨l1,bx,cx.y⟩) (c:=cx) (b:=false) (by unfold lineE;rw[if_pos HLL.out,HLE1.out]) (by unfold gapE;(try dsimp only);rw[if_neg (by have:=HG.out;first | omega | (dsimp only;omega))]) (HI.out));have h0:=HPq11.out.cell_ 0 (.int .i64 cx.x) rfl;have h1:=HPq11.out.cell_ 1 (.int .i64 cx.y) rfl;have h2:=HPq11.out.cell_ 2 (.int .i64 cx.s) rfl;have hlen2:(l1).length < 4294967296:=by have h1:=HWN.out.1.n;have h2:=HWN.out.2.2;have:=HLN1.out;omega
       have hbs2:w3.heap.size≤wq11.heap.size:=HBq11.out.size;go_wp2_with (at_builtin;refine wpList_pushPB rfl _ _ _ rfl w3.heap.size 107 Tryz.underlying105 Tryz.infoRun _ (l1) rfl HOq11.out _ _ rfl hlen2 hbs2 ?_);intro v2 wp2 ho2 hbl2 hkp2;obtain⟨l2,hl2⟩:∃ l2,l2=l1 ++ [(1,cx.s)]:=⟨_,rfl⟩
       have HO2:Hid (OwnP 107 wp2 w3.heap.size v2 l2):=hid (by rw[hl2];exact ho2);have hn2:l2.length=(l1).length+1:=by rw[hl2];simp
       have HLE2:=hid hl2;have HLN2:=hid hn2;clear hl2 hn2;have HB2':=hid (HBq11.out.trans hbl2);have HP2:=hid (hkp2 _ 114 _ (by decide) HPq11.out);clear ho2 hbl2 hkp2 hlen2 hbs2;clear h0 h1 h2;have hwx:wrap64 (cx.x+1)=cx.x+1:=by have:=HWN.out.2.1.1;unfold wrap64;omega
       have z0:=HP2.out.cell_ 0 (.int .i64 cx.x) rfl;have z1:=HP2.out.cell_ 1 (.int .i64 cx.y) rfl;have z2:=HP2.out.cell_ 2 (.int .i64 cx.s) rfl;go_wp2;go_roundw
       case rel=>
        refine⟨k+1,by omega,by go_num,by rw[HT.out,HST.out],by rw[HT.out,HST.out],?_,HB2'⟩;have hx:=HO2.out;rw[HLE2.out] at hx;rw[HT.out,HST.out];exact hid hx
       case measure=>simp[intOf];omega
     ·have dk1:decide (0 < k)=false:=decide_eq_false hkn;clear HPV;have f0:=HP1.out.cell_ 0 (.int .i64 cx.x) rfl;have f1:=HP1.out.cell_ 1 (.int .i64 cx.y) rfl;have f2:=HP1.out.cell_ 2 (.int .i64 cx.s) rfl;go_upto_region 16 with fail
      go_quiet (fail)
      clear f0 f1 f2;have HOq11:=hid (HO1.out.drewN nq);have HBq11:=hid (below_drewN HB1'.out nq);have HPq11:=hid (HP1.out.drewN nq);generalize wp1.drewN nq=wq11 at *;have HST:=hid (step_of (bx:=bx) (t:=t) (a:=⟨l1,bx,cx.y⟩) (g:=⟨l1,bx,cx.y⟩) (c:=cx) (b:=false) (by unfold lineE;rw[if_pos HLL.out,HLE1.out]) (by unfold gapE;(try dsimp only);rw[if_neg (by have:=HG.out;first | omega | (dsimp only;omega))]) (HI.out));have h0:=HPq11.out.cell_ 0 (.int .i64 cx.x) rfl;have h1:=HPq11.out.cell_ 1 (.int .i64 cx.y) rfl;have h2:=HPq11.out.cell_ 2 (.int .i64 cx.s) rfl;have hlen2:(l1).length < 4294967296:=by have h1:=HWN.out.1.n;have h2:=HWN.out.2.2;have:=HLN1.out;omega
      have hbs2:w3.heap.size≤wq11.heap.size:=HBq11.out.size;go_wp2_with (at_builtin;refine wpList_pushPB rfl _ _ _ rfl w3.heap.size 107 Tryz.underlying105 Tryz.infoRun _ (l1) rfl HOq11.out _ _ rfl hlen2 hbs2 ?_);intro v2 wp2 ho2 hbl2 hkp2;obtain⟨l2,hl2⟩:∃ l2,l2=l1 ++ [(1,cx.s)]:=⟨_,rfl⟩
      have HO2:Hid (OwnP 107 wp2 w3.heap.size v2 l2):=hid (by rw[hl2];exact ho2);have hn2:l2.length=(l1).length+1:=by rw[hl2];simp
      have HLE2:=hid hl2;have HLN2:=hid hn2;clear hl2 hn2;have HB2':=hid (HBq11.out.trans hbl2);have HP2:=hid (hkp2 _ 114 _ (by decide) HPq11.out);clear ho2 hbl2 hkp2 hlen2 hbs2;clear h0 h1 h2;have hwx:wrap64 (cx.x+1)=cx.x+1:=by have:=HWN.out.2.1.1;unfold wrap64;omega
      have z0:=HP2.out.cell_ 0 (.int .i64 cx.x) rfl;have z1:=HP2.out.cell_ 1 (.int .i64 cx.y) rfl;have z2:=HP2.out.cell_ 2 (.int .i64 cx.s) rfl;go_wp2;go_roundw
      case rel=>
       refine⟨k+1,by omega,by go_num,by rw[HT.out,HST.out],by rw[HT.out,HST.out],?_,HB2'⟩;have hx:=HO2.out;rw[HLE2.out] at hx;rw[HT.out,HST.out];exact hid hx
      case measure=>simp[intOf];omega
   ·have dL:decide (t.y < cx.y)=false:=decide_eq_false hL;have HLL:=hid hL;clear hL;subst e1;have xa0:=HPb.out.cell_ 0 (.int .i64 cx.x) rfl;have xa1:=HPb.out.cell_ 1 (.int .i64 cx.y) rfl;have xa2:=HPb.out.cell_ 2 (.int .i64 cx.s) rfl
    go_upto_if 36 with fail
    rw[← HW.out];clear xa0 xa1 xa2;have hxG:wrap64 (cx.x - t.x)=cx.x - t.x:=by have h1:=HWN.out.1.x0;have h2:=HWN.out.1.x1;have h3:=HWN.out.2.1.1;have h4:=HBB.out.1;unfold wrap64;omega
    have g0:=HPb.out.cell_ 0 (.int .i64 cx.x) rfl;have g1:=HPb.out.cell_ 1 (.int .i64 cx.y) rfl;have g2:=HPb.out.cell_ 2 (.int .i64 cx.s) rfl;by_cases hG:t.x < cx.x
    ·have dG:decide (t.x < cx.x)=true:=decide_eq_true hG;have HG:=hid hG;clear hG;have hlen1:(t.out).length < 4294967296:=by have h1:=HWN.out.1.n;have h2:=HWN.out.2.2;omega
     have hbs1:w3.heap.size≤wb.heap.size:=HBb.out.size;go_wp2_with (at_builtin;refine wpList_pushPB rfl _ _ _ rfl w3.heap.size 107 Tryz.underlying105 Tryz.infoRun _ (t.out) rfl HOb.out _ _ rfl hlen1 hbs1 ?_);intro v1 wp1 ho1 hbl1 hkp1;obtain⟨l1,hl1⟩:∃ l1,l1=t.out ++ [(cx.x - t.x,0)]:=⟨_,rfl⟩
     have HO1:Hid (OwnP 107 wp1 w3.heap.size v1 l1):=hid (by rw[hl1];exact ho1);have hn1:l1.length=(t.out).length+1:=by rw[hl1];simp
     have HLE1:=hid hl1;have HLN1:=hid hn1;clear hl1 hn1;have HB1':=hid (HBb.out.trans hbl1);have HP1:=hid (hkp1 _ 114 _ (by decide) HPb.out);clear ho1 hbl1 hkp1 hlen1 hbs1;clear g0 g1 g2;have hll:l1.length≤20000:=by have h1:=HWN.out.1.n;have h2:=HWN.out.2.2;have:=HLN1.out;omega
     obtain⟨Ar,ar,hvr,hptr,hnr⟩:=HO1.out.pts;subst hvr;have hpos:0 < l1.length:=by have:=HLN1.out;omega
     have dX:(cx.x == t.x)=false:=by have:=HG.out;simp;omega
     have HI:Hid (incs ⟨l1,t.x,t.y⟩ t.x cx=false):=hid (by unfold incs;rw[HLE1.out];have:=HG.out;simp;intro h;omega);clear hptr hnr;by_cases hkn:0 < k
     ·have hk1:0 < k:=hkn;have dk1:decide (0 < k)=true:=decide_eq_true hkn;clear HPV;have f0:=HP1.out.cell_ 0 (.int .i64 cx.x) rfl;have f1:=HP1.out.cell_ 1 (.int .i64 cx.y) rfl;have f2:=HP1.out.cell_ 2 (.int .i64 cx.s) rfl;go_upto_region 16 with fail
      go_quiet (fail)
      clear f0 f1 f2;have HOq11:=hid (HO1.out.drewN nq);have HBq11:=hid (below_drewN HB1'.out nq);have HPq11:=hid (HP1.out.drewN nq);generalize wp1.drewN nq=wq11 at *;have HST:=hid (step_of (bx:=bx) (t:=t) (a:=t) (g:=⟨l1,t.x,t.y⟩) (c:=cx) (b:=false) (by unfold lineE;rw[if_neg (by have:=HLL.out;omega)]) (by unfold gapE;(try dsimp only);rw[if_pos HG.out,HLE1.out]) (HI.out));have h0:=HPq11.out.cell_ 0 (.int .i64 cx.x) rfl;have h1:=HPq11.out.cell_ 1 (.int .i64 cx.y) rfl;have h2:=HPq11.out.cell_ 2 (.int .i64 cx.s) rfl;have hlen2:(l1).length < 4294967296:=by have h1:=HWN.out.1.n;have h2:=HWN.out.2.2;have:=HLN1.out;omega
      have hbs2:w3.heap.size≤wq11.heap.size:=HBq11.out.size;go_wp2_with (at_builtin;refine wpList_pushPB rfl _ _ _ rfl w3.heap.size 107 Tryz.underlying105 Tryz.infoRun _ (l1) rfl HOq11.out _ _ rfl hlen2 hbs2 ?_);intro v2 wp2 ho2 hbl2 hkp2;obtain⟨l2,hl2⟩:∃ l2,l2=l1 ++ [(1,cx.s)]:=⟨_,rfl⟩
      have HO2:Hid (OwnP 107 wp2 w3.heap.size v2 l2):=hid (by rw[hl2];exact ho2);have hn2:l2.length=(l1).length+1:=by rw[hl2];simp
      have HLE2:=hid hl2;have HLN2:=hid hn2;clear hl2 hn2;have HB2':=hid (HBq11.out.trans hbl2);have HP2:=hid (hkp2 _ 114 _ (by decide) HPq11.out);clear ho2 hbl2 hkp2 hlen2 hbs2;clear h0 h1 h2;have hwx:wrap64 (cx.x+1)=cx.x+1:=by have:=HWN.out.2.1.1;unfold wrap64;omega
      have z0:=HP2.out.cell_ 0 (.int .i64 cx.x) rfl;have z1:=HP2.out.cell_ 1 (.int .i64 cx.y) rfl;have z2:=HP2.out.cell_ 2 (.int .i64 cx.s) rfl;go_wp2;go_roundw
      case rel=>
       refine⟨k+1,by omega,by go_num,by rw[HT.out,HST.out],by rw[HT.out,HST.out],?_,HB2'⟩;have hx:=HO2.out;rw[HLE2.out] at hx;rw[HT.out,HST.out];exact hid hx
      case measure=>simp[intOf];omega
     ·have dk1:decide (0 < k)=false:=decide_eq_false hkn;clear HPV;have f0:=HP1.out.cell_ 0 (.int .i64 cx.x) rfl;have f1:=HP1.out.cell_ 1 (.int .i64 cx.y) rfl;have f2:=HP1.out.cell_ 2 (.int .i64 cx.s) rfl;go_upto_region 16 with fail
      go_quiet (fail)
      clear f0 f1 f2;have HOq11:=hid (HO1.out.drewN nq);have HBq11:=hid (below_drewN HB1'.out nq);have HPq11:=hid (HP1.out.drewN nq);generalize wp1.drewN nq=wq11 at *;have HST:=hid (step_of (bx:=bx) (t:=t) (a:=t) (g:=⟨l1,t.x,t.y⟩) (c:=cx) (b:=false) (by unfold lineE;rw[if_neg (by have:=HLL.out;omega)]) (by unfold gapE;(try dsimp only);rw[if_pos HG.out,HLE1.out]) (HI.out));have h0:=HPq11.out.cell_ 0 (.int .i64 cx.x) rfl;have h1:=HPq11.out.cell_ 1 (.int .i64 cx.y) rfl;have h2:=HPq11.out.cell_ 2 (.int .i64 cx.s) rfl;have hlen2:(l1).length < 4294967296:=by have h1:=HWN.out.1.n;have h2:=HWN.out.2.2;have:=HLN1.out;omega
      have hbs2:w3.heap.size≤wq11.heap.size:=HBq11.out.size;go_wp2_with (at_builtin;refine wpList_pushPB rfl _ _ _ rfl w3.heap.size 107 Tryz.underlying105 Tryz.infoRun _ (l1) rfl HOq11.out _ _ rfl hlen2 hbs2 ?_);intro v2 wp2 ho2 hbl2 hkp2;obtain⟨l2,hl2⟩:∃ l2,l2=l1 ++ [(1,cx.s)]:=⟨_,rfl⟩
      have HO2:Hid (OwnP 107 wp2 w3.heap.size v2 l2):=hid (by rw[hl2];exact ho2);have hn2:l2.length=(l1).length+1:=by rw[hl2];simp
      have HLE2:=hid hl2;have HLN2:=hid hn2;clear hl2 hn2;have HB2':=hid (HBq11.out.trans hbl2);have HP2:=hid (hkp2 _ 114 _ (by decide) HPq11.out);clear ho2 hbl2 hkp2 hlen2 hbs2;clear h0 h1 h2;have hwx:wrap64 (cx.x+1)=cx.x+1:=by have:=HWN.out.2.1.1;unfold wrap64;omega
      have z0:=HP2.out.cell_ 0 (.int .i64 cx.x) rfl;have z1:=HP2.out.cell_ 1 (.int .i64 cx.y) rfl;have z2:=HP2.out.cell_ 2 (.int .i64 cx.s) rfl;go_wp2;go_roundw
      case rel=>
       refine⟨k+1,by omega,by go_num,by rw[HT.out,HST.out],by rw[HT.out,HST.out],?_,HB2'⟩;have hx:=HO2.out;rw[HLE2.out] at hx;rw[HT.out,HST.out];exact hid hx
      case measure=>simp[intOf];omega
    ·have dG:decide (t.x < cx.x)=false:=decide_eq_false hG;have HG:=hid hG;clear hG;obtain⟨l0,hl0⟩:∃ l0,l0=t.out:=⟨_,rfl⟩
     have HLE0:=hid hl0;rw[← hl0] at hv;have HOl:Hid (OwnP 107 wb w3.heap.size u4 l0):=hid (by rw[hl0];exact HOb.out);have hll:l0.length≤20000:=by rw[hl0];have h1:=HWN.out.1.n;have h2:=HWN.out.2.2;omega
     clear hl0;subst hv;have hptr:=HOl.out.pts;obtain⟨Ar,ar,hvr,hptr,hnr⟩:=hptr;injection hvr with hv1 hv2 hv3
     subst hv1 hv3;clear hv2;by_cases hkn:0 < k
     ·have hk1:0 < k:=hkn;have dk1:decide (0 < k)=true:=decide_eq_true hkn;obtain⟨mm,hmm⟩:=(HPV.out.2.1 hk1).2.2;rw[← HLE0.out] at hmm;obtain⟨q,hl0⟩:∃ q,l0=q ++ [(mm,pv.s)]:=⟨l0.dropLast,by rw[List.getLast?_eq_some_iff] at hmm;obtain⟨ys,hys⟩:=hmm;rw[hys];simp⟩
      clear hmm;have hpos:0 < l0.length:=by rw[hl0];simp
      have dge:decide ((0:Int)≤(l0.length:Int) - 1)=true:=decide_eq_true (by omega);have dge1:decide ((1:Int)≤(l0.length:Int))=true:=decide_eq_true (by omega);have dge2:1≤l0.length:=hpos;obtain⟨bR,oR,hAr,-,hr1,hr2⟩:=hptr.at_ (k:=l0.length - 1) (by omega);have hlast:l0[l0.length - 1]=(mm,pv.s):=by simp[hl0]
      rw[hlast] at hr1 hr2;clear hlast;have HL0:=hid hl0;have HIN:Hid (incs t t.x cx=(decide (cx.x=t.x) && decide (pv.s=cx.s))):=hid (by unfold incs;rw[← HLE0.out,hl0];simp);clear hl0;have dPY:(pv.y == t.y)=true:=by have:=(HPV.out.2.1 hk1).2.1;simp;omega
      have hwt:wrap64 (t.x - 1)=t.x - 1:=by have h1:=HWN.out.1.x0;have h2:=HWN.out.1.x1;unfold wrap64;omega
      have dPX:(pv.x == t.x - 1)=true:=by have:=(HPV.out.2.1 hk1).1;simp;omega
      by_cases hX:cx.x=t.x
      ·have dX:(cx.x == t.x)=true:=by simp[hX]
       by_cases hS:pv.s=cx.s
       ·have dS:(pv.s == cx.s)=true:=by simp[hS]
        have HI:Hid (incs t t.x cx=true):=hid (by rw[HIN.out,decide_eq_true hX,decide_eq_true hS];rfl);have hrb:0≤mm∧mm≤k:=HWN.out.1.c (mm,pv.s) (by rw[← HLE0.out,HL0.out];simp) (by have:=HWN.out.2.1.2.2;show 1≤pv.s;rw[hS];omega);have hwr:wrap64 (mm+1)=mm+1:=by unfold wrap64;omega
        clear hX hS hrb;rcases HOl.out.2 with ⟨hz,-⟩ | ⟨gR,capR,curR,hz,hgb,hgr,hgx⟩
        ·injection hz with hz1 hz2
         omega
        ·injection hz with hz1 hz2 hz3
         subst hz1;injection hAr with hAr
         injection hAr with hA1 hA2
         subst hA1 hA2 hz3;simp only[Nat.zero_add] at hr1 hr2;have HGB:=hid hgb;have HGR:=hid hgr;clear hz2 hgb hgx hptr hnr hgr;obtain⟨bq,oq,eq0,-,hq0,hq1,hq2⟩:=(ha.ext (HB3.out.trans (HBb.out.mono HB3.out.size))).at_ (k:=k - 1) (by omega);injection eq0 with eq0
         injection eq0 with eq1 eq2
         subst eq1 eq2;rw[HPV.out.1] at hq0 hq1 hq2;have f0:=HPb.out.cell_ 0 (.int .i64 cx.x) rfl;have f1:=HPb.out.cell_ 1 (.int .i64 cx.y) rfl;have f2:=HPb.out.cell_ 2 (.int .i64 cx.s) rfl;go_upto_region 16 with fail
         go_quiet (fail)
         clear f0 f1 f2;clear hq0 hq1 hq2;have hr3:(wb.drewN nq).cell? ⟨gR,(l0.length - 1)*2,none⟩=some (.int .i64 mm):=hr1;have hgr2:Blk (wb.drewN nq) gR 107 curR:=HGR.out;clear hr1 hr2 HGR;have HOq01:=hid (HOl.out.drewN nq);have HBq01:=hid (below_drewN HBb.out nq);have HPq01:=hid (HPb.out.drewN nq);generalize wb.drewN nq=wq01 at *;have HGR:=hid hgr2;have hfz:=hgr2.frozen ((l0.length - 1)*2);clear hgr2;go_upto_region 17 with fail
         go_region
         have hnq:l0.length - 1=q.length:=by rw[HL0.out];simp
         have hnl:l0.length=(q ++ [(mm+1,pv.s)]).length:=by rw[HL0.out];simp
         have hst:=World.ownsRow.stored (w:=wq01) (base:=w3.heap.size) (e:=107) (size:=2) (n:=l0.length) (xs:=l0.flatMap ptCells) HOq01.out ((l0.length - 1)*2) (.int .i64 (mm+1));have HOz:Hid (OwnP 107 ((wq01.setCell ⟨gR,(l0.length - 1)*2,none⟩ (.int .i64 (mm+1))).drew) w3.heap.size (.slice (some ⟨gR,0,none⟩) l0.length a2) (q ++ [(mm+1,pv.s)])):=hid (by
          unfold OwnP;rw[← flat_snoc q (mm,pv.s) (mm+1),← hnl,← hnq,← HL0.out];exact hst.1)
         have HBz:Hid (Below w3.heap.size w3 ((wq01.setCell ⟨gR,(l0.length - 1)*2,none⟩ (.int .i64 (mm+1))).drew)):=hid (HBq01.out.setCell (p:=⟨gR,(l0.length - 1)*2,none⟩) HGB.out _).drew;have HPz:Hid (Blk ((wq01.setCell ⟨gR,(l0.length - 1)*2,none⟩ (.int .i64 (mm+1))).drew) wr.heap.size 114 #[.int .i64 cx.x,.int .i64 cx.y,.int .i64 cx.s]):=hid (HPq01.out.far (p:=⟨gR,(l0.length - 1)*2,none⟩) (HPq01.out.ne_ HGR.out (by decide)) _).drew;have HST:=hid (step_of (bx:=bx) (t:=t) (a:=t) (g:=t) (c:=cx) (b:=true) (by unfold lineE;rw[if_neg (by have:=HLL.out;omega)]) (by unfold gapE;rw[if_neg (by have:=HG.out;omega)]) (HI.out));have HBM:Hid (bump t.out=q ++ [(mm+1,pv.s)]):=hid (by rw[← HLE0.out,HL0.out];unfold bump;simp);clear hnq hnl hst hfz hr3;generalize (wq01.setCell ⟨gR,(l0.length - 1)*2,none⟩ (.int .i64 (mm+1))).drew=wz at *;have z0:=HPz.out.cell_ 0 (.int .i64 cx.x) rfl;have z1:=HPz.out.cell_ 1 (.int .i64 cx.y) rfl;have z2:=HPz.out.cell_ 2 (.int .i64 cx.s) rfl;have hwx:wrap64 (cx.x+1)=cx.x+1:=by have:=HWN.out.2.1.1;unfold wrap64;omega
         go_wp2;go_roundw
         case rel=>
          refine⟨k+1,by omega,by go_num,by rw[HT.out,HST.out],by rw[HT.out,HST.out],?_,HBz⟩;rw[HT.out,HST.out];show Hid (OwnP 107 wz w3.heap.size _ (bump t.out));rw[HBM.out];exact HOz
         case measure=>simp[intOf];omega
       ·have dS:(pv.s == cx.s)=false:=by simpa using hS
        have HI:Hid (incs t t.x cx=false):=hid (by rw[HIN.out,decide_eq_false hS,Bool.and_false]);subst hAr;clear hX hS;obtain⟨bq,oq,eq0,-,hq0,hq1,hq2⟩:=(ha.ext (HB3.out.trans (HBb.out.mono HB3.out.size))).at_ (k:=k - 1) (by omega);injection eq0 with eq0
        injection eq0 with eq1 eq2
        subst eq1 eq2;rw[HPV.out.1] at hq0 hq1 hq2;have f0:=HPb.out.cell_ 0 (.int .i64 cx.x) rfl;have f1:=HPb.out.cell_ 1 (.int .i64 cx.y) rfl;have f2:=HPb.out.cell_ 2 (.int .i64 cx.s) rfl;go_upto_region 16 with fail
        go_quiet (fail)
        clear f0 f1 f2;have HOq01:=hid (HOl.out.drewN nq);have HBq01:=hid (below_drewN HBb.out nq);have HPq01:=hid (HPb.out.drewN nq);generalize wb.drewN nq=wq01 at *;clear hq0 hq1 hq2;have HST:=hid (step_of (bx:=bx) (t:=t) (a:=t) (g:=t) (c:=cx) (b:=false) (by unfold lineE;rw[if_neg (by have:=HLL.out;omega)]) (by unfold gapE;(try dsimp only);rw[if_neg (by have:=HG.out;first | omega | (dsimp only;omega))]) (HI.out));have h0:=HPq01.out.cell_ 0 (.int .i64 cx.x) rfl;have h1:=HPq01.out.cell_ 1 (.int .i64 cx.y) rfl;have h2:=HPq01.out.cell_ 2 (.int .i64 cx.s) rfl;have hlen1:(l0).length < 4294967296:=by have h1:=HWN.out.1.n;have h2:=HWN.out.2.2;omega
        have hbs1:w3.heap.size≤wq01.heap.size:=HBq01.out.size;go_wp2_with (at_builtin;refine wpList_pushPB rfl _ _ _ rfl w3.heap.size 107 Tryz.underlying105 Tryz.infoRun _ (l0) rfl HOq01.out _ _ rfl hlen1 hbs1 ?_);intro v1 wp1 ho1 hbl1 hkp1;obtain⟨l1,hl1⟩:∃ l1,l1=l0 ++ [(1,cx.s)]:=⟨_,rfl⟩
        have HO1:Hid (OwnP 107 wp1 w3.heap.size v1 l1):=hid (by rw[hl1];exact ho1);have hn1:l1.length=(l0).length+1:=by rw[hl1];simp
        have HLE1:=hid hl1;have HLN1:=hid hn1;clear hl1 hn1;have HB1':=hid (HBq01.out.trans hbl1);have HP1:=hid (hkp1 _ 114 _ (by decide) HPq01.out);clear ho1 hbl1 hkp1 hlen1 hbs1;clear h0 h1 h2;have hwx:wrap64 (cx.x+1)=cx.x+1:=by have:=HWN.out.2.1.1;unfold wrap64;omega
        have z0:=HP1.out.cell_ 0 (.int .i64 cx.x) rfl;have z1:=HP1.out.cell_ 1 (.int .i64 cx.y) rfl;have z2:=HP1.out.cell_ 2 (.int .i64 cx.s) rfl;go_wp2;go_roundw
        case rel=>
         refine⟨k+1,by omega,by go_num,by rw[HT.out,HST.out],by rw[HT.out,HST.out],?_,HB1'⟩;have hx:=HO1.out;rw[HLE1.out] at hx;rw[HT.out,HST.out];rw[HLE0.out] at hx;exact hid hx
        case measure=>simp[intOf];omega
      ·have dX:(cx.x == t.x)=false:=by simpa using hX
       have HI:Hid (incs t t.x cx=false):=hid (by rw[HIN.out,decide_eq_false hX];rfl);clear hX hptr hnr hAr;have f0:=HPb.out.cell_ 0 (.int .i64 cx.x) rfl;have f1:=HPb.out.cell_ 1 (.int .i64 cx.y) rfl;have f2:=HPb.out.cell_ 2 (.int .i64 cx.s) rfl;go_upto_region 16 with fail
       go_quiet (fail)
       clear f0 f1 f2;have HOq01:=hid (HOl.out.drewN nq);have HBq01:=hid (below_drewN HBb.out nq);have HPq01:=hid (HPb.out.drewN nq);generalize wb.drewN nq=wq01 at *;have HST:=hid (step_of (bx:=bx) (t:=t) (a:=t) (g:=t) (c:=cx) (b:=false) (by unfold lineE;rw[if_neg (by have:=HLL.out;omega)]) (by unfold gapE;(try dsimp only);rw[if_neg (by have:=HG.out;first | omega | (dsimp only;omega))]) (HI.out));have h0:=HPq01.out.cell_ 0 (.int .i64 cx.x) rfl;have h1:=HPq01.out.cell_ 1 (.int .i64 cx.y) rfl;have h2:=HPq01.out.cell_ 2 (.int .i64 cx.s) rfl;have hlen1:(l0).length < 4294967296:=by have h1:=HWN.out.1.n;have h2:=HWN.out.2.2;omega
       have hbs1:w3.heap.size≤wq01.heap.size:=HBq01.out.size;go_wp2_with (at_builtin;refine wpList_pushPB rfl _ _ _ rfl w3.heap.size 107 Tryz.underlying105 Tryz.infoRun _ (l0) rfl HOq01.out _ _ rfl hlen1 hbs1 ?_);intro v1 wp1 ho1 hbl1 hkp1;obtain⟨l1,hl1⟩:∃ l1,l1=l0 ++ [(1,cx.s)]:=⟨_,rfl⟩
       have HO1:Hid (OwnP 107 wp1 w3.heap.size v1 l1):=hid (by rw[hl1];exact ho1);have hn1:l1.length=(l0).length+1:=by rw[hl1];simp
       have HLE1:=hid hl1;have HLN1:=hid hn1;clear hl1 hn1;have HB1':=hid (HBq01.out.trans hbl1);have HP1:=hid (hkp1 _ 114 _ (by decide) HPq01.out);clear ho1 hbl1 hkp1 hlen1 hbs1;clear h0 h1 h2;have hwx:wrap64 (cx.x+1)=cx.x+1:=by have:=HWN.out.2.1.1;unfold wrap64;omega
       have z0:=HP1.out.cell_ 0 (.int .i64 cx.x) rfl;have z1:=HP1.out.cell_ 1 (.int .i64 cx.y) rfl;have z2:=HP1.out.cell_ 2 (.int .i64 cx.s) rfl;go_wp2;go_roundw
       case rel=>
        refine⟨k+1,by omega,by go_num,by rw[HT.out,HST.out],by rw[HT.out,HST.out],?_,HB1'⟩;have hx:=HO1.out;rw[HLE1.out] at hx;rw[HT.out,HST.out];rw[HLE0.out] at hx;exact hid hx
       case measure=>simp[intOf];omega
     ·have dk1:decide (0 < k)=false:=decide_eq_false hkn;have HI:Hid (incs t t.x cx=false):=hid (by unfold incs;rw[HPZ.out (by omega)];rfl);clear hptr hnr HPV;have f0:=HPb.out.cell_ 0 (.int .i64 cx.x) rfl;have f1:=HPb.out.cell_ 1 (.int .i64 cx.y) rfl;have f2:=HPb.out.cell_ 2 (.int .i64 cx.s) rfl;go_upto_region 16 with fail
      go_quiet (fail)
      clear f0 f1 f2;have HOq01:=hid (HOl.out.drewN nq);have HBq01:=hid (below_drewN HBb.out nq);have HPq01:=hid (HPb.out.drewN nq);generalize wb.drewN nq=wq01 at *;have HST:=hid (step_of (bx:=bx) (t:=t) (a:=t) (g:=t) (c:=cx) (b:=false) (by unfold lineE;rw[if_neg (by have:=HLL.out;omega)]) (by unfold gapE;(try dsimp only);rw[if_neg (by have:=HG.out;first | omega | (dsimp only;omega))]) (HI.out));have h0:=HPq01.out.cell_ 0 (.int .i64 cx.x) rfl;have h1:=HPq01.out.cell_ 1 (.int .i64 cx.y) rfl;have h2:=HPq01.out.cell_ 2 (.int .i64 cx.s) rfl;have hlen1:(l0).length < 4294967296:=by have h1:=HWN.out.1.n;have h2:=HWN.out.2.2;omega
      have hbs1:w3.heap.size≤wq01.heap.size:=HBq01.out.size;go_wp2_with (at_builtin;refine wpList_pushPB rfl _ _ _ rfl w3.heap.size 107 Tryz.underlying105 Tryz.infoRun _ (l0) rfl HOq01.out _ _ rfl hlen1 hbs1 ?_);intro v1 wp1 ho1 hbl1 hkp1;obtain⟨l1,hl1⟩:∃ l1,l1=l0 ++ [(1,cx.s)]:=⟨_,rfl⟩
      have HO1:Hid (OwnP 107 wp1 w3.heap.size v1 l1):=hid (by rw[hl1];exact ho1);have hn1:l1.length=(l0).length+1:=by rw[hl1];simp
      have HLE1:=hid hl1;have HLN1:=hid hn1;clear hl1 hn1;have HB1':=hid (HBq01.out.trans hbl1);have HP1:=hid (hkp1 _ 114 _ (by decide) HPq01.out);clear ho1 hbl1 hkp1 hlen1 hbs1;clear h0 h1 h2;have hwx:wrap64 (cx.x+1)=cx.x+1:=by have:=HWN.out.2.1.1;unfold wrap64;omega
      have z0:=HP1.out.cell_ 0 (.int .i64 cx.x) rfl;have z1:=HP1.out.cell_ 1 (.int .i64 cx.y) rfl;have z2:=HP1.out.cell_ 2 (.int .i64 cx.s) rfl;go_wp2;go_roundw
      case rel=>
       refine⟨k+1,by omega,by go_num,by rw[HT.out,HST.out],by rw[HT.out,HST.out],?_,HB1'⟩;have hx:=HO1.out;rw[HLE1.out] at hx;rw[HT.out,HST.out];rw[HLE0.out] at hx;exact hid hx
      case measure=>simp[intOf];omega
  ·obtain rfl:k=ps.length:=by omega
   obtain⟨A2,a2,rfl,hpt,hnew⟩:=HO.out.pts;have HR:=hid (And.intro hpt hnew);clear hpt hnew;go_wp2;refine bodyPost_ret (v:=.tuple #[.slice A2 (runsSt bx y0 ps ps.length).out.length a2,.int .i64 0]) (by simp[results,Tryz.results115,go_sem]) rfl ?_;exact RetRuns.right HRT.out HF.out HR.out.1 (HR.out.2.mono HB3.out.size) HBW.out

def isDig (c:UInt8):Bool:=decide (48≤(c.toNat:Int)) && decide ((c.toNat:Int)≤57)
def digOf (c:UInt8):Int:=(c.toNat:Int) - 48
theorem get_byte (s:ByteArray)(j:Nat)(h:j < s.size)(h':j < s.data.toList.length):s.data.toList[j]=s[j]:=by
 rfl
def nmB (c:UInt8):Bool:=!(decide ((c.toNat:Int) < 33) || decide (126 < (c.toNat:Int)))
def nameB (l:List UInt8):Bool:=l.all nmB && (decide (1≤l.length) && decide (l.length≤100))
theorem nameB_bad {l:List UInt8}{k:Nat}(hk:k < l.length)(hb:nmB l[k]=false):nameB l=false:=by
 unfold nameB;have:l.all nmB=false:=by
  cases h:l.all nmB
  ·rfl
  ·rw[List.all_eq_true] at h;rw[h _ (List.getElem_mem hk)] at hb;cases hb
 rw[this];rfl
theorem nm_take {l:List UInt8}{k:Nat}(hk:k < l.length)(h:(l.take k).all nmB=true) (hb:nmB l[k]=true):(l.take (k+1)).all nmB=true:=by
 rw[List.take_succ_eq_append_getElem hk,List.all_append,h];simp[hb]
theorem nameB_end {l:List UInt8}(h:(l.take l.length).all nmB=true):nameB l=(decide (1≤l.length) && decide (l.length≤100)):=by
 rw[List.take_length] at h;unfold nameB;rw[h,Bool.true_and]
set_option maxHeartbeats 1600000 in
theorem ruleName_any (s:ByteArray)(w:World)(hs:s.size≤2147483648):Calls Tryz.prog 72 #[.string s] w fun e w'=>e=.returned (.bool (nameB s.data.toList))∧w'=w:=by
 obtain⟨l,hl⟩:∃ l,l=s.data.toList:=⟨_,rfl⟩
 have hgb:∀ j (h:j < s.size) (h':j < l.length),l[j]=s[j]:=by subst hl;exact get_byte s
 have hlen:l.length=s.size:=by rw[hl];rfl
 rw[← hl];have HG:=hid (And.intro hlen hgb);clear hl hgb hlen;go_enter Tryz.func72,Tryz.ntmps72;go_wp2;go_loopw [6] (fun i wr=>∃ k:Nat,k≤s.size∧i=.int .i64 k∧wr=w∧Hid ((l.take k).all nmB=true)) (fun i _=>s.size - (intOf i).toNat)
 case atStart=>exact⟨0,Nat.zero_le _,rfl,rfl,hid rfl⟩
 case round=>
  obtain⟨k,hk,rfl,hw,HT⟩:=hrel;have hw2:=hw.symm;clear hw;subst hw2;by_cases hlt:k < s.size
  ·have hlt':k < l.length:=by rw[HG.out.1];exact hlt
   have hc0:(s[k].toNat:Int)≤255:=by have:=s[k].toNat_lt;omega
   have hnm:nmB l[k] = !(decide ((s[k].toNat:Int) < 33) || decide (126 < (s[k].toNat:Int))):=by rw[HG.out.2 k hlt hlt'];rfl
   have HD:=hid hnm;clear hnm;by_cases h1:(s[k].toNat:Int) < 33
   ·have d1:decide ((s[k].toNat:Int) < 33)=true:=decide_eq_true h1;have HN:=hid (nameB_bad hlt' (by rw[HD.out,d1];rfl));go_wp2;go_ret;exact⟨ret_bool HN.out.symm,rfl⟩
   ·have d1:decide ((s[k].toNat:Int) < 33)=false:=decide_eq_false h1;by_cases h2:126 < (s[k].toNat:Int)
    ·have d2:decide (126 < (s[k].toNat:Int))=true:=decide_eq_true h2;have HN:=hid (nameB_bad hlt' (by rw[HD.out,d1,d2];rfl));go_wp2;go_ret;exact⟨ret_bool HN.out.symm,rfl⟩
    ·have d2:decide (126 < (s[k].toNat:Int))=false:=decide_eq_false h2;have HN:=hid (nm_take hlt' HT.out (by rw[HD.out,d1,d2];rfl));go_wp2;go_roundw
     case rel=>exact⟨k+1,by omega,by go_num,(by first | rfl | trivial),HN⟩
     case measure=>simp[intOf];omega
  ·obtain rfl:k=s.size:=by omega
   have HN:Hid (nameB l=(decide (1≤s.size) && decide (s.size≤100))):=hid (by rw[nameB_end (by rw[HG.out.1];exact HT.out),HG.out.1]);by_cases h1:1≤s.size
   ·have d1:decide (1≤s.size)=true:=decide_eq_true h1;go_wp2;go_ret;rw[HN.out,d1];refine⟨ret_bool ?_,rfl⟩;simp <;> omega
   ·have d1:decide (1≤s.size)=false:=decide_eq_false h1;go_wp2;go_ret;rw[HN.out,d1];exact⟨rfl,rfl⟩
set_option maxHeartbeats 1600000 in
theorem named_any (s:ByteArray)(w:World)(hs:s.size≤2147483648):Calls Tryz.prog 107 #[.string s] w fun e w'=>e=.returned (.bool (nameB s.data.toList))∧w'=w:=by
 obtain⟨l,hl⟩:∃ l,l=s.data.toList:=⟨_,rfl⟩
 have hgb:∀ j (h:j < s.size) (h':j < l.length),l[j]=s[j]:=by subst hl;exact get_byte s
 have hlen:l.length=s.size:=by rw[hl];rfl
 rw[← hl];have HG:=hid (And.intro hlen hgb);clear hl hgb hlen;go_enter Tryz.func107,Tryz.ntmps107;go_wp2;go_loopw [3] (fun i wr=>∃ k:Nat,k≤s.size∧i=.int .i64 k∧wr=w∧Hid ((l.take k).all nmB=true)) (fun i _=>s.size - (intOf i).toNat)
 case atStart=>exact⟨0,Nat.zero_le _,rfl,rfl,hid rfl⟩
 case round=>
  obtain⟨k,hk,rfl,hw,HT⟩:=hrel;have hw2:=hw.symm;clear hw;subst hw2;by_cases hlt:k < s.size
  ·have hlt':k < l.length:=by rw[HG.out.1];exact hlt
   have hc0:(s[k].toNat:Int)≤255:=by have:=s[k].toNat_lt;omega
   have hnm:nmB l[k] = !(decide ((s[k].toNat:Int) < 33) || decide (126 < (s[k].toNat:Int))):=by rw[HG.out.2 k hlt hlt'];rfl
   have HD:=hid hnm;clear hnm;by_cases h1:(s[k].toNat:Int) < 33
   ·have d1:decide ((s[k].toNat:Int) < 33)=true:=decide_eq_true h1;have HN:=hid (nameB_bad hlt' (by rw[HD.out,d1];rfl));go_wp2;go_ret;exact⟨ret_bool HN.out.symm,rfl⟩
   ·have d1:decide ((s[k].toNat:Int) < 33)=false:=decide_eq_false h1;by_cases h2:126 < (s[k].toNat:Int)
    ·have d2:decide (126 < (s[k].toNat:Int))=true:=decide_eq_true h2;have HN:=hid (nameB_bad hlt' (by rw[HD.out,d1,d2];rfl));go_wp2;go_ret;exact⟨ret_bool HN.out.symm,rfl⟩
    ·have d2:decide (126 < (s[k].toNat:Int))=false:=decide_eq_false h2;have HN:=hid (nm_take hlt' HT.out (by rw[HD.out,d1,d2];rfl));go_wp2;go_roundw
     case rel=>exact⟨k+1,by omega,by go_num,(by first | rfl | trivial),HN⟩
     case measure=>simp[intOf];omega
  ·obtain rfl:k=s.size:=by omega
   have HN:Hid (nameB l=(decide (1≤s.size) && decide (s.size≤100))):=hid (by rw[nameB_end (by rw[HG.out.1];exact HT.out),HG.out.1]);by_cases h1:1≤s.size
   ·have d1:decide (1≤s.size)=true:=decide_eq_true h1;go_wp2;go_ret;rw[HN.out,d1];refine⟨ret_bool ?_,rfl⟩;simp <;> omega
   ·have d1:decide (1≤s.size)=false:=decide_eq_false h1;go_wp2;go_ret;rw[HN.out,d1];exact⟨rfl,rfl⟩
def stateC (c:Int):Int:=if c=98∨c=46 then 0 else if c=111 then 1 else if 65≤c∧c≤71 then c - 65+1 else if c=36 then -1 else -2
theorem stateC_b {c:Int}(h:c=98∨c=46):stateC c=0:=by unfold stateC;rw[if_pos h]
theorem stateC_o {c:Int}(h:c=111):stateC c=1:=by unfold stateC;rw[if_neg (by omega),if_pos h]
theorem stateC_l {c:Int}(h:65≤c∧c≤71):stateC c=c - 65+1:=by unfold stateC;rw[if_neg (by omega),if_neg (by omega),if_pos h]
theorem stateC_n {c:Int}(h0:¬ (c=98∨c=46)) (h1:¬ c=111)(h2:¬ (65≤c∧c≤71)) (h3:¬ c=36):stateC c = -2:=by unfold stateC;rw[if_neg h0,if_neg h1,if_neg h2,if_neg h3]
set_option maxHeartbeats 1600000 in
theorem state_any (c:Int)(w:World)(h0:0≤c)(h1:c≤2147483647):Calls Tryz.prog 138 #[.int .i32 c] w fun e w'=>e=.returned (.int .i64 (stateC c))∧w'=w:=by
 by_cases k1:c=98
 ·have HN:=hid (stateC_b (.inl k1));have d1:(c == 98)=true:=by simp[k1]
  go_enter Tryz.func138,Tryz.ntmps138;go_wp2;go_ret;exact⟨ret_int HN.out.symm,rfl⟩
 have d1:(c == 98)=false:=by simpa using k1
 by_cases k2:c=46
 ·have HN:=hid (stateC_b (.inr k2));have d2:(c == 46)=true:=by simp[k2]
  clear k1;go_enter Tryz.func138,Tryz.ntmps138;go_wp2;go_ret;exact⟨ret_int HN.out.symm,rfl⟩
 have d2:(c == 46)=false:=by simpa using k2
 by_cases k3:c=111
 ·have HN:=hid (stateC_o k3);have d3:(c == 111)=true:=by simp[k3]
  clear k1 k2;go_enter Tryz.func138,Tryz.ntmps138;go_wp2;go_ret;exact⟨ret_int HN.out.symm,rfl⟩
 have d3:(c == 111)=false:=by simpa using k3
 by_cases k4:65≤c
 ·have d4:decide (65≤c)=true:=decide_eq_true k4;by_cases k5:c≤71
  ·have d5:decide (c≤71)=true:=decide_eq_true k5;have HN:=hid (stateC_l (And.intro k4 k5));have hw1:wrap32 (c - 65)=c - 65:=by unfold wrap32;omega
   have hw2:wrap64 (c - 65)=c - 65:=by unfold wrap64;omega
   have hw3:wrap64 (c - 65+1)=c - 65+1:=by unfold wrap64;omega
   clear k1 k2 k3;go_enter Tryz.func138,Tryz.ntmps138;go_wp2;go_ret;exact⟨ret_int HN.out.symm,rfl⟩
  have d5:decide (c≤71)=false:=decide_eq_false k5;by_cases k6:c=36
  ·omega
  have d6:(c == 36)=false:=by simpa using k6
  have HN:=hid (stateC_n (c:=c) (by omega) k3 (by omega) k6);clear k1 k2 k3 k6;go_enter Tryz.func138,Tryz.ntmps138;go_wp2;go_ret;exact⟨ret_int HN.out.symm,rfl⟩
 have d4:decide (65≤c)=false:=decide_eq_false k4;by_cases k6:c=36
 ·subst k6;clear k1 k2 k3 k4 d1 d2 d3 d4;go_enter Tryz.func138,Tryz.ntmps138;go_wp2;go_ret;exact⟨rfl,rfl⟩
 have d6:(c == 36)=false:=by simpa using k6
 have HN:=hid (stateC_n (c:=c) (by omega) k3 (by omega) k6);clear k1 k2 k3 k6;go_enter Tryz.func138,Tryz.ntmps138;go_wp2;go_ret;exact⟨ret_int HN.out.symm,rfl⟩
def boS (k:Int):UInt8:=if k=0 then 98 else 111
def abcS (k:Int):UInt8:=if k=0 then 46 else UInt8.ofNat (64+k.toNat)
def letC (k:Int)(two:Bool):List UInt8:=if k < 0 then [36] else if two then [boS k] else [abcS k]
set_option maxHeartbeats 1600000 in
theorem letter_any (k:Int)(two:Bool)(w:World)(h1:k≤7)(h2:two=true→k≤1):Calls Tryz.prog 78 #[.int .i64 k,.bool two] w fun e w'=>e=.returned (.string ⟨(letC k two).toArray⟩)∧w'=w:=by
 by_cases h0:k < 0
 ·have d0:decide (k < 0)=true:=decide_eq_true h0;have HN:Hid (letC k two=[36]):=hid (by unfold letC;rw[if_pos h0]);go_enter Tryz.func78,Tryz.ntmps78;go_wp2;go_ret;rw[HN.out];exact⟨rfl,rfl⟩
 ·cases two
  ·obtain rfl | rfl | rfl | rfl | rfl | rfl | rfl | rfl:k=0∨k=1∨k=2∨k=3∨k=4∨k=5∨k=6∨k=7:=by omega
   all_goals
    go_enter Tryz.func78,Tryz.ntmps78;go_wp2;go_ret;exact⟨rfl,rfl⟩
  ·have:=h2 rfl;obtain rfl | rfl:k=0∨k=1:=by omega
   all_goals
    go_enter Tryz.func78,Tryz.ntmps78;go_wp2;go_ret;exact⟨rfl,rfl⟩
end Go.Proofs.YtcfelnhmifkelaaGreatDoor
