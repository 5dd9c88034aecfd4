/-
  texts RunsW RunsP: parts of the proof; conditions stand with each theorem.
-/
import Derived.Test.YtcfelnhmifkelaaGreatDoorUG2
namespace Go.Proofs.YtcfelnhmifkelaaGreatDoor
open Lib(hid)
open Go.RowKit
set_option maxRecDepth 100000
set_option linter.unusedVariables false
set_option linter.unusedSimpArgs false

theorem RSok.start {bx y0:Int}(hb:-1048576≤bx∧bx≤1048576)(hy:-1048576≤y0∧y0≤1048576):RSok ⟨[],bx,y0⟩ 0:=
 ⟨hb.1,by show bx≤1048577;omega,hy.1,hy.2,by simp,fun r hr=>by cases hr⟩
theorem runs_ok {bx y0:Int}{ps:List Cel}(hp:∀ c ∈ ps,(-1048576≤c.x∧c.x≤1048576)∧(-1048576≤c.y∧c.y≤1048576)∧1≤c.s∧c.s < 8) (hb:-1048576≤bx∧bx≤1048576)(hy:-1048576≤y0∧y0≤1048576):∀ k,k≤ps.length→RSok (runsSt bx y0 ps k) k:=by
 intro k;induction k with
 | zero=>intro _;exact RSok.start hb hy
 | succ k ih=>
  intro hk;rw[runs_snoc bx y0 (by omega)];have:=hp ps[k] (List.getElem_mem (by omega));exact (ih (by omega)).step hb this.1 this.2.1
theorem box_bd {ps:List Cel}(h:(boxC ps).2=true):rightC ps=true∧ps≠[]∧(-1048576≤(boxC ps).1.x∧(boxC ps).1.x≤1048576)∧(-1048576≤(boxC ps).1.y∧(boxC ps).1.y≤1048576):=by
 unfold boxC at *
 split at h
 ·rename_i hc;rw[if_pos hc];have hb:=right_bd hc.2;refine⟨hc.2,hc.1,lo_bd (·.x) hc.1 (fun c h=>(hb c h).1) _,?_⟩;have:=hb (hdC ps) (by cases ps with | nil=>exact absurd rfl hc.1 | cons a l=>exact List.mem_cons_self);exact this.2.1
 ·cases h
def RetOwnP (ps:List (Int × Int)) (w:World)(e:Ending)(w':World):Prop:=∃ v base,e=.returned v∧w.heap.size≤base∧OwnP 107 w' base v ps∧Below w.heap.size w w'
set_option maxHeartbeats 16000000 in
theorem runs_own (A:Option Addr)(c:Nat)(ps:List Cel)(w:World)(ha:Cls w A ps) :
  Calls Tryz.prog 77 #[.slice A ps.length c] w (RetOwnP (runsL ps) w):=by
 have hn:=ha.le;have HBX:=hid (box_any A c ps w ha);have HBD:=hid (fun h=>box_bd (ps:=ps) h);have HRL:Hid (runsL ps=if (boxC ps).2 then (runsSt (boxC ps).1.x (boxC ps).1.y ps ps.length).out else []):=hid rfl;obtain⟨q,hq⟩:∃ q,q=boxC ps:=⟨_,rfl⟩
 rw[← hq] at HBX HBD HRL;clear hq;obtain⟨bb,ok⟩:=q;obtain⟨bx,y0,bw,bh⟩:=bb;unfold bxV at HBX;dsimp only at HBX HBD HRL;cases ok
 ·have HN:Hid (runsL ps=[]):=hid HRL.out;go_enter Tryz.func77,Tryz.ntmps77;go_wp2_with fail;refine HBX.out.mono ?_;rintro e w1 ⟨rfl,hb1⟩;have HB:=hid (hb1.alloc hb1.size (.cells #[.int .i64 bx,.int .i64 y0,.int .i64 bw,.int .i64 bh] 73));clear hb1;go_wp2;go_ret;rw[HN.out];exact⟨_,_,rfl,Nat.le_refl _,OwnP.nil _ _ _,HB.out⟩
 have bd:=HBD.out rfl;have hp:=right_bd bd.1;have HK:=hid (fun k hk=>runs_ok (ps:=ps) hp bd.2.2.1 bd.2.2.2 k hk);have HP:=hid hp;have HBB:=hid (And.intro bd.2.2.1 bd.2.2.2);have HL5:Hid (ps.length≤5000):=hid (by have h:=bd.1;unfold rightC at h;simp only[Bool.and_eq_true,decide_eq_true_eq] at h;exact h.1);have HF:Hid (runsL ps=(runsSt bx y0 ps ps.length).out):=hid HRL.out;clear bd hp;go_enter Tryz.func77,Tryz.ntmps77;go_wp2_with fail;refine HBX.out.mono ?_;rintro e w1 ⟨rfl,hb1⟩;have br0:=Blk.new w1 73 #[.int .i64 bx,.int .i64 y0,.int .i64 bw,.int .i64 bh];have hba:=hb1.alloc hb1.size (.cells #[.int .i64 bx,.int .i64 y0,.int .i64 bw,.int .i64 bh] 73);obtain⟨w2,hw2⟩:∃ w2,w2=w1.alloc (.cells #[.int .i64 bx,.int .i64 y0,.int .i64 bw,.int .i64 bh] 73):=⟨_,rfl⟩
 rw[← hw2] at br0 hba;have q0:=br0.cell_ 0 (.int .i64 bx) rfl;have q1:=br0.cell_ 1 (.int .i64 y0) rfl;have HW2:=hid hw2;have HBR:=hid br0;have HB2:=hid hba;clear hw2 br0 hba hb1;go_upto_region 5 with fail
 rw[← HW2.out];go_quiet (fail)
 have HBR3:=hid (HBR.out.drewN nq);have HB3:=hid (below_drewN HB2.out nq);clear q0 q1 HBR HB2 HW2;generalize w2.drewN nq=w3 at *;go_wp2;go_loopw [5,6,7,24] (fun v x y i wr=>∃ k:Nat,k≤ps.length∧i=.int .i64 k∧x=.int .i64 (runsSt bx y0 ps k).x∧y=.int .i64 (runsSt bx y0 ps k).y∧Hid (OwnP 107 wr w3.heap.size v (runsSt bx y0 ps k).out)∧Hid (Below w3.heap.size w3 wr)) (fun _ _ _ i _=>ps.length - (intOf i).toNat)
 case atStart=>exact⟨0,Nat.zero_le _,rfl,rfl,rfl,hid (OwnP.nil _ _ _),hid (Below.refl _ _)⟩
 case round=>
  obtain⟨k,hk,rfl,rfl,rfl,HO,HB⟩:=hrel;have HBW:=hid (HB3.out.trans (HB.out.mono HB3.out.size));by_cases hlt:k < ps.length
  ·obtain⟨b1,o1,e1,-,hc0,hc1,hc2⟩:=(ha.ext HBW.out).at_ hlt;have HE1:=hid e1;obtain⟨A2,a2,hv,hpt,hnew⟩:=HO.out.pts;obtain⟨t,ht⟩:∃ t,t=runsSt bx y0 ps k:=⟨_,rfl⟩
   have HT:Hid (runsSt bx y0 ps (k+1)=stepR bx t ps[k]):=hid (by rw[ht];exact runs_snoc bx y0 hlt);have tok:=HK.out k hk;have bc:=HP.out ps[k] (List.getElem_mem hlt);rw[← ht] at HO tok hv hpt ⊢;obtain⟨cx,hcx⟩:∃ cx,cx=ps[k]:=⟨_,rfl⟩
   rw[← hcx] at hc0 hc1 hc2 HT bc;clear ht hcx;have hk5:=HL5.out;have hnb:=below_new wr (.cells #[.int .i64 cx.x,.int .i64 cx.y,.int .i64 cx.s] 114);obtain⟨wb,hwb⟩:∃ wb,wb=wr.alloc (.cells #[.int .i64 cx.x,.int .i64 cx.y,.int .i64 cx.s] 114):=⟨_,rfl⟩
   have p0:=Blk.new wr 114 #[.int .i64 cx.x,.int .i64 cx.y,.int .i64 cx.s];rw[← hwb] at hnb p0;have HOb:=hid (HO.out.ext hnb);have HBb:=hid (HB.out.trans (hnb.mono HB.out.size));have HPb:=hid p0;have HW:=hid hwb;have HWN:=hid (And.intro tok (And.intro bc hk5));clear HO HB hwb p0 hnb hpt hnew;have hyL:wrap64 (cx.y - t.y)=cx.y - t.y:=by have h1:=HWN.out.1.y0;have h2:=HWN.out.1.y1;have h3:=HWN.out.2.1.2.1;unfold wrap64;omega
   by_cases hL:t.y < cx.y
   ·have dL:decide (t.y < cx.y)=true:=decide_eq_true hL;have HLL:=hid hL;clear hL;subst e1;have xa0:=HPb.out.cell_ 0 (.int .i64 cx.x) rfl;have xa1:=HPb.out.cell_ 1 (.int .i64 cx.y) rfl;have xa2:=HPb.out.cell_ 2 (.int .i64 cx.s) rfl
    go_upto_if 31 with fail
    rw[← HW.out];have hlen1:(t.out).length < 4294967296:=by have h1:=HWN.out.1.n;have h2:=HWN.out.2.2;omega
    have hbs1:w3.heap.size≤wb.heap.size:=HBb.out.size;go_wp2_with (at_builtin;refine wpList_pushPB rfl _ _ _ rfl w3.heap.size 107 Tryz.underlying105 Tryz.infoRun _ (t.out) rfl HOb.out _ _ rfl hlen1 hbs1 ?_);intro v1 wp1 ho1 hbl1 hkp1;obtain⟨l1,hl1⟩:∃ l1,l1=t.out ++ [(cx.y - t.y,-1)]:=⟨_,rfl⟩
    have HO1:Hid (OwnP 107 wp1 w3.heap.size v1 l1):=hid (by rw[hl1];exact ho1);have hn1:l1.length=(t.out).length+1:=by rw[hl1];simp
    have HLE1:=hid hl1;have HLN1:=hid hn1;clear hl1 hn1;have HB1':=hid (HBb.out.trans hbl1);have HP1:=hid (hkp1 _ 114 _ (by decide) HPb.out);clear ho1 hbl1 hkp1 hlen1 hbs1;clear xa0 xa1 xa2;have ya0:=HP1.out.cell_ 0 (.int .i64 cx.x) rfl;have ya1:=HP1.out.cell_ 1 (.int .i64 cx.y) rfl;have ya2:=HP1.out.cell_ 2 (.int .i64 cx.s) rfl;have yax:=(HBR3.out.below HB1'.out HBR3.out.lt).cell_ 0 (.int .i64 bx) rfl;go_upto_region 11 with fail
    go_quiet (fail)
    clear yax;clear ya0 ya1 ya2;have HOq11:=hid (HO1.out.drewN nq);have HBq11:=hid (below_drewN HB1'.out nq);have HPq11:=hid (HP1.out.drewN nq);generalize wp1.drewN nq=wq11 at *;have hxG:wrap64 (cx.x - bx)=cx.x - bx:=by have h1:=HWN.out.1.x0;have h2:=HWN.out.1.x1;have h3:=HWN.out.2.1.1;have h4:=HBB.out.1;unfold wrap64;omega
    have g0:=HPq11.out.cell_ 0 (.int .i64 cx.x) rfl;have g1:=HPq11.out.cell_ 1 (.int .i64 cx.y) rfl;have g2:=HPq11.out.cell_ 2 (.int .i64 cx.s) rfl;by_cases hG:bx < cx.x
    ·have dG:decide (bx < cx.x)=true:=decide_eq_true hG;have HG:=hid hG;clear hG;have hlen2:(l1).length < 4294967296:=by have h1:=HWN.out.1.n;have h2:=HWN.out.2.2;have:=HLN1.out;omega
     have hbs2:w3.heap.size≤wq11.heap.size:=HBq11.out.size;go_wp2_with (at_builtin;refine wpList_pushPB rfl _ _ _ rfl w3.heap.size 107 Tryz.underlying105 Tryz.infoRun _ (l1) rfl HOq11.out _ _ rfl hlen2 hbs2 ?_);intro v2 wp2 ho2 hbl2 hkp2;obtain⟨l2,hl2⟩:∃ l2,l2=l1 ++ [(cx.x - bx,0)]:=⟨_,rfl⟩
     have HO2:Hid (OwnP 107 wp2 w3.heap.size v2 l2):=hid (by rw[hl2];exact ho2);have hn2:l2.length=(l1).length+1:=by rw[hl2];simp
     have HLE2:=hid hl2;have HLN2:=hid hn2;clear hl2 hn2;have HB2':=hid (HBq11.out.trans hbl2);have HP2:=hid (hkp2 _ 114 _ (by decide) HPq11.out);clear ho2 hbl2 hkp2 hlen2 hbs2;clear g0 g1 g2;have hll:l2.length≤20000:=by have h1:=HWN.out.1.n;have h2:=HWN.out.2.2;have:=HLN1.out;have:=HLN2.out;omega
     obtain⟨Ar,ar,hvr,hptr,hnr⟩:=HO2.out.pts;subst hvr;have hpos:0 < l2.length:=by have:=HLN2.out;omega
     have dge:decide ((0:Int)≤(l2.length:Int) - 1)=true:=decide_eq_true (by omega);have dge1:decide ((1:Int)≤(l2.length:Int))=true:=decide_eq_true (by omega);have dge2:1≤l2.length:=hpos;have dX:(cx.x == bx)=false:=by have:=HG.out;simp;omega
     have HI:Hid (incs ⟨l2,bx,cx.y⟩ bx cx=false):=hid (by unfold incs;rw[HLE2.out];have:=HG.out;simp;intro h;omega);clear hptr hnr;have f0:=HP2.out.cell_ 0 (.int .i64 cx.x) rfl;have f1:=HP2.out.cell_ 1 (.int .i64 cx.y) rfl;have f2:=HP2.out.cell_ 2 (.int .i64 cx.s) rfl;go_upto_region 15 with fail
     go_quiet (fail)
     clear f0 f1 f2;have HOq22:=hid (HO2.out.drewN nq);have HBq22:=hid (below_drewN HB2'.out nq);have HPq22:=hid (HP2.out.drewN nq);generalize wp2.drewN nq=wq22 at *;have HST:=hid (step_of (bx:=bx) (t:=t) (a:=⟨l1,bx,cx.y⟩) (g:=⟨l2,bx,cx.y⟩) (c:=cx) (b:=false) (by unfold lineE;rw[if_pos HLL.out,HLE1.out]) (by unfold gapE;(try dsimp only);rw[if_pos HG.out,HLE2.out]) (HI.out));have h0:=HPq22.out.cell_ 0 (.int .i64 cx.x) rfl;have h1:=HPq22.out.cell_ 1 (.int .i64 cx.y) rfl;have h2:=HPq22.out.cell_ 2 (.int .i64 cx.s) rfl;have hlen3:(l2).length < 4294967296:=by have h1:=HWN.out.1.n;have h2:=HWN.out.2.2;have:=HLN1.out;have:=HLN2.out;omega
     have hbs3:w3.heap.size≤wq22.heap.size:=HBq22.out.size;go_wp2_with (at_builtin;refine wpList_pushPB rfl _ _ _ rfl w3.heap.size 107 Tryz.underlying105 Tryz.infoRun _ (l2) rfl HOq22.out _ _ rfl hlen3 hbs3 ?_);intro v3 wp3 ho3 hbl3 hkp3;obtain⟨l3,hl3⟩:∃ l3,l3=l2 ++ [(1,cx.s)]:=⟨_,rfl⟩
     have HO3:Hid (OwnP 107 wp3 w3.heap.size v3 l3):=hid (by rw[hl3];exact ho3);have hn3:l3.length=(l2).length+1:=by rw[hl3];simp
     have HLE3:=hid hl3;have HLN3:=hid hn3;clear hl3 hn3;have HB3':=hid (HBq22.out.trans hbl3);have HP3:=hid (hkp3 _ 114 _ (by decide) HPq22.out);clear ho3 hbl3 hkp3 hlen3 hbs3;clear h0 h1 h2;have hwx:wrap64 (cx.x+1)=cx.x+1:=by have:=HWN.out.2.1.1;unfold wrap64;omega
     have z0:=HP3.out.cell_ 0 (.int .i64 cx.x) rfl;have z1:=HP3.out.cell_ 1 (.int .i64 cx.y) rfl;have z2:=HP3.out.cell_ 2 (.int .i64 cx.s) rfl;go_wp2;go_roundw
     case rel=>
      refine⟨k+1,by omega,by go_num,by rw[HT.out,HST.out],by rw[HT.out,HST.out],?_,HB3'⟩;have hx:=HO3.out;rw[HLE3.out] at hx;rw[HT.out,HST.out];exact hid hx
     case measure=>simp[intOf];omega
    ·have dG:decide (bx < cx.x)=false:=decide_eq_false hG;have HG:=hid hG;clear hG;have hll:l1.length≤20000:=by have h1:=HWN.out.1.n;have h2:=HWN.out.2.2;have:=HLN1.out;omega
     obtain⟨Ar,ar,hvr,hptr,hnr⟩:=HOq11.out.pts;subst hvr;have hpos:0 < l1.length:=by have:=HLN1.out;omega
     have dge:decide ((0:Int)≤(l1.length:Int) - 1)=true:=decide_eq_true (by omega);have dge1:decide ((1:Int)≤(l1.length:Int))=true:=decide_eq_true (by omega);have dge2:1≤l1.length:=hpos;have HI:Hid (incs ⟨l1,bx,cx.y⟩ bx cx=false):=hid (by unfold incs;rw[HLE1.out];have:=HWN.out.2.1.2.2;simp;intro h;omega);by_cases hX:cx.x=bx
     ·have dX:(cx.x == bx)=true:=by simp[hX]
      obtain⟨bR,oR,hAr,-,hr1,hr2⟩:=hptr.at_ (k:=l1.length - 1) (by omega);subst hAr;have hlast:l1[l1.length - 1]=(cx.y - t.y,-1):=by simp[HLE1.out]
      rw[hlast] at hr1 hr2;clear hlast;have dS:((-1:Int) == cx.s)=false:=by have:=HWN.out.2.1.2.2;simp;omega
      clear hX;have f0:=HPq11.out.cell_ 0 (.int .i64 cx.x) rfl;have f1:=HPq11.out.cell_ 1 (.int .i64 cx.y) rfl;have f2:=HPq11.out.cell_ 2 (.int .i64 cx.s) rfl;go_upto_region 15 with fail
      go_quiet (fail)
      clear f0 f1 f2;have HOq12:=hid (HOq11.out.drewN nq);have HBq12:=hid (below_drewN HBq11.out nq);have HPq12:=hid (HPq11.out.drewN nq);generalize wq11.drewN nq=wq12 at *;have HST:=hid (step_of (bx:=bx) (t:=t) (a:=⟨l1,bx,cx.y⟩) (g:=⟨l1,bx,cx.y⟩) (c:=cx) (b:=false) (by unfold lineE;rw[if_pos HLL.out,HLE1.out]) (by unfold gapE;(try dsimp only);rw[if_neg (by have:=HG.out;first | omega | (dsimp only;omega))]) (HI.out));have h0:=HPq12.out.cell_ 0 (.int .i64 cx.x) rfl;have h1:=HPq12.out.cell_ 1 (.int .i64 cx.y) rfl;have h2:=HPq12.out.cell_ 2 (.int .i64 cx.s) rfl;have hlen2:(l1).length < 4294967296:=by have h1:=HWN.out.1.n;have h2:=HWN.out.2.2;have:=HLN1.out;omega
      have hbs2:w3.heap.size≤wq12.heap.size:=HBq12.out.size;go_wp2_with (at_builtin;refine wpList_pushPB rfl _ _ _ rfl w3.heap.size 107 Tryz.underlying105 Tryz.infoRun _ (l1) rfl HOq12.out _ _ rfl hlen2 hbs2 ?_);intro v2 wp2 ho2 hbl2 hkp2;obtain⟨l2,hl2⟩:∃ l2,l2=l1 ++ [(1,cx.s)]:=⟨_,rfl⟩
      have HO2:Hid (OwnP 107 wp2 w3.heap.size v2 l2):=hid (by rw[hl2];exact ho2);have hn2:l2.length=(l1).length+1:=by rw[hl2];simp
      have HLE2:=hid hl2;have HLN2:=hid hn2;clear hl2 hn2;have HB2':=hid (HBq12.out.trans hbl2);have HP2:=hid (hkp2 _ 114 _ (by decide) HPq12.out);clear ho2 hbl2 hkp2 hlen2 hbs2;clear h0 h1 h2;have hwx:wrap64 (cx.x+1)=cx.x+1:=by have:=HWN.out.2.1.1;unfold wrap64;omega
      have z0:=HP2.out.cell_ 0 (.int .i64 cx.x) rfl;have z1:=HP2.out.cell_ 1 (.int .i64 cx.y) rfl;have z2:=HP2.out.cell_ 2 (.int .i64 cx.s) rfl;go_wp2;go_roundw
      case rel=>
       refine⟨k+1,by omega,by go_num,by rw[HT.out,HST.out],by rw[HT.out,HST.out],?_,HB2'⟩;have hx:=HO2.out;rw[HLE2.out] at hx;rw[HT.out,HST.out];exact hid hx
      case measure=>simp[intOf];omega
     ·have dX:(cx.x == bx)=false:=by simpa using hX
      clear hX hptr hnr;have f0:=HPq11.out.cell_ 0 (.int .i64 cx.x) rfl;have f1:=HPq11.out.cell_ 1 (.int .i64 cx.y) rfl;have f2:=HPq11.out.cell_ 2 (.int .i64 cx.s) rfl;go_upto_region 15 with fail
      go_quiet (fail)
      clear f0 f1 f2;have HOq12:=hid (HOq11.out.drewN nq);have HBq12:=hid (below_drewN HBq11.out nq);have HPq12:=hid (HPq11.out.drewN nq);generalize wq11.drewN nq=wq12 at *;have HST:=hid (step_of (bx:=bx) (t:=t) (a:=⟨l1,bx,cx.y⟩) (g:=⟨l1,bx,cx.y⟩) (c:=cx) (b:=false) (by unfold lineE;rw[if_pos HLL.out,HLE1.out]) (by unfold gapE;(try dsimp only);rw[if_neg (by have:=HG.out;first | omega | (dsimp only;omega))]) (HI.out));have h0:=HPq12.out.cell_ 0 (.int .i64 cx.x) rfl;have h1:=HPq12.out.cell_ 1 (.int .i64 cx.y) rfl;have h2:=HPq12.out.cell_ 2 (.int .i64 cx.s) rfl;have hlen2:(l1).length < 4294967296:=by have h1:=HWN.out.1.n;have h2:=HWN.out.2.2;have:=HLN1.out;omega
      have hbs2:w3.heap.size≤wq12.heap.size:=HBq12.out.size;go_wp2_with (at_builtin;refine wpList_pushPB rfl _ _ _ rfl w3.heap.size 107 Tryz.underlying105 Tryz.infoRun _ (l1) rfl HOq12.out _ _ rfl hlen2 hbs2 ?_);intro v2 wp2 ho2 hbl2 hkp2;obtain⟨l2,hl2⟩:∃ l2,l2=l1 ++ [(1,cx.s)]:=⟨_,rfl⟩
      have HO2:Hid (OwnP 107 wp2 w3.heap.size v2 l2):=hid (by rw[hl2];exact ho2);have hn2:l2.length=(l1).length+1:=by rw[hl2];simp
      have HLE2:=hid hl2;have HLN2:=hid hn2;clear hl2 hn2;have HB2':=hid (HBq12.out.trans hbl2);have HP2:=hid (hkp2 _ 114 _ (by decide) HPq12.out);clear ho2 hbl2 hkp2 hlen2 hbs2;clear h0 h1 h2;have hwx:wrap64 (cx.x+1)=cx.x+1:=by have:=HWN.out.2.1.1;unfold wrap64;omega
      have z0:=HP2.out.cell_ 0 (.int .i64 cx.x) rfl;have z1:=HP2.out.cell_ 1 (.int .i64 cx.y) rfl;have z2:=HP2.out.cell_ 2 (.int .i64 cx.s) rfl;go_wp2;go_roundw
      case rel=>
       refine⟨k+1,by omega,by go_num,by rw[HT.out,HST.out],by rw[HT.out,HST.out],?_,HB2'⟩;have hx:=HO2.out;rw[HLE2.out] at hx;rw[HT.out,HST.out];exact hid hx
      case measure=>simp[intOf];omega
   ·have dL:decide (t.y < cx.y)=false:=decide_eq_false hL;have HLL:=hid hL;clear hL;subst e1;have xa0:=HPb.out.cell_ 0 (.int .i64 cx.x) rfl;have xa1:=HPb.out.cell_ 1 (.int .i64 cx.y) rfl;have xa2:=HPb.out.cell_ 2 (.int .i64 cx.s) rfl
    go_upto_if 31 with fail
    rw[← HW.out];clear xa0 xa1 xa2;have hxG:wrap64 (cx.x - t.x)=cx.x - t.x:=by have h1:=HWN.out.1.x0;have h2:=HWN.out.1.x1;have h3:=HWN.out.2.1.1;have h4:=HBB.out.1;unfold wrap64;omega
    have g0:=HPb.out.cell_ 0 (.int .i64 cx.x) rfl;have g1:=HPb.out.cell_ 1 (.int .i64 cx.y) rfl;have g2:=HPb.out.cell_ 2 (.int .i64 cx.s) rfl;by_cases hG:t.x < cx.x
    ·have dG:decide (t.x < cx.x)=true:=decide_eq_true hG;have HG:=hid hG;clear hG;have hlen1:(t.out).length < 4294967296:=by have h1:=HWN.out.1.n;have h2:=HWN.out.2.2;omega
     have hbs1:w3.heap.size≤wb.heap.size:=HBb.out.size;go_wp2_with (at_builtin;refine wpList_pushPB rfl _ _ _ rfl w3.heap.size 107 Tryz.underlying105 Tryz.infoRun _ (t.out) rfl HOb.out _ _ rfl hlen1 hbs1 ?_);intro v1 wp1 ho1 hbl1 hkp1;obtain⟨l1,hl1⟩:∃ l1,l1=t.out ++ [(cx.x - t.x,0)]:=⟨_,rfl⟩
     have HO1:Hid (OwnP 107 wp1 w3.heap.size v1 l1):=hid (by rw[hl1];exact ho1);have hn1:l1.length=(t.out).length+1:=by rw[hl1];simp
     have HLE1:=hid hl1;have HLN1:=hid hn1;clear hl1 hn1;have HB1':=hid (HBb.out.trans hbl1);have HP1:=hid (hkp1 _ 114 _ (by decide) HPb.out);clear ho1 hbl1 hkp1 hlen1 hbs1;clear g0 g1 g2;have hll:l1.length≤20000:=by have h1:=HWN.out.1.n;have h2:=HWN.out.2.2;have:=HLN1.out;omega
     obtain⟨Ar,ar,hvr,hptr,hnr⟩:=HO1.out.pts;subst hvr;have hpos:0 < l1.length:=by have:=HLN1.out;omega
     have dge:decide ((0:Int)≤(l1.length:Int) - 1)=true:=decide_eq_true (by omega);have dge1:decide ((1:Int)≤(l1.length:Int))=true:=decide_eq_true (by omega);have dge2:1≤l1.length:=hpos;have dX:(cx.x == t.x)=false:=by have:=HG.out;simp;omega
     have HI:Hid (incs ⟨l1,t.x,t.y⟩ t.x cx=false):=hid (by unfold incs;rw[HLE1.out];have:=HG.out;simp;intro h;omega);clear hptr hnr;have f0:=HP1.out.cell_ 0 (.int .i64 cx.x) rfl;have f1:=HP1.out.cell_ 1 (.int .i64 cx.y) rfl;have f2:=HP1.out.cell_ 2 (.int .i64 cx.s) rfl;go_upto_region 15 with fail
     go_quiet (fail)
     clear f0 f1 f2;have HOq11:=hid (HO1.out.drewN nq);have HBq11:=hid (below_drewN HB1'.out nq);have HPq11:=hid (HP1.out.drewN nq);generalize wp1.drewN nq=wq11 at *;have HST:=hid (step_of (bx:=bx) (t:=t) (a:=t) (g:=⟨l1,t.x,t.y⟩) (c:=cx) (b:=false) (by unfold lineE;rw[if_neg (by have:=HLL.out;omega)]) (by unfold gapE;(try dsimp only);rw[if_pos HG.out,HLE1.out]) (HI.out));have h0:=HPq11.out.cell_ 0 (.int .i64 cx.x) rfl;have h1:=HPq11.out.cell_ 1 (.int .i64 cx.y) rfl;have h2:=HPq11.out.cell_ 2 (.int .i64 cx.s) rfl;have hlen2:(l1).length < 4294967296:=by have h1:=HWN.out.1.n;have h2:=HWN.out.2.2;have:=HLN1.out;omega
     have hbs2:w3.heap.size≤wq11.heap.size:=HBq11.out.size;go_wp2_with (at_builtin;refine wpList_pushPB rfl _ _ _ rfl w3.heap.size 107 Tryz.underlying105 Tryz.infoRun _ (l1) rfl HOq11.out _ _ rfl hlen2 hbs2 ?_);intro v2 wp2 ho2 hbl2 hkp2;obtain⟨l2,hl2⟩:∃ l2,l2=l1 ++ [(1,cx.s)]:=⟨_,rfl⟩
     have HO2:Hid (OwnP 107 wp2 w3.heap.size v2 l2):=hid (by rw[hl2];exact ho2);have hn2:l2.length=(l1).length+1:=by rw[hl2];simp
     have HLE2:=hid hl2;have HLN2:=hid hn2;clear hl2 hn2;have HB2':=hid (HBq11.out.trans hbl2);have HP2:=hid (hkp2 _ 114 _ (by decide) HPq11.out);clear ho2 hbl2 hkp2 hlen2 hbs2;clear h0 h1 h2;have hwx:wrap64 (cx.x+1)=cx.x+1:=by have:=HWN.out.2.1.1;unfold wrap64;omega
     have z0:=HP2.out.cell_ 0 (.int .i64 cx.x) rfl;have z1:=HP2.out.cell_ 1 (.int .i64 cx.y) rfl;have z2:=HP2.out.cell_ 2 (.int .i64 cx.s) rfl;go_wp2;go_roundw
     case rel=>
      refine⟨k+1,by omega,by go_num,by rw[HT.out,HST.out],by rw[HT.out,HST.out],?_,HB2'⟩;have hx:=HO2.out;rw[HLE2.out] at hx;rw[HT.out,HST.out];exact hid hx
     case measure=>simp[intOf];omega
    ·have dG:decide (t.x < cx.x)=false:=decide_eq_false hG;have HG:=hid hG;clear hG;obtain⟨l0,hl0⟩:∃ l0,l0=t.out:=⟨_,rfl⟩
     have HLE0:=hid hl0;rw[← hl0] at hv;have HOl:Hid (OwnP 107 wb w3.heap.size u5 l0):=hid (by rw[hl0];exact HOb.out);have hll:l0.length≤20000:=by rw[hl0];have h1:=HWN.out.1.n;have h2:=HWN.out.2.2;omega
     clear hl0;subst hv;have hptr:=HOl.out.pts;obtain⟨Ar,ar,hvr,hptr,hnr⟩:=hptr;injection hvr with hv1 hv2 hv3
     subst hv1 hv3;clear hv2;rcases List.eq_nil_or_concat l0 with hl0 | ⟨q,rr,hl0⟩
     ·have HI:Hid (incs t t.x cx=false):=hid (by unfold incs;rw[← HLE0.out,hl0];rfl);clear hptr hnr;have HL0:=hid hl0;have dge:l0.length=0:=by rw[hl0];rfl
      clear hl0;have f0:=HPb.out.cell_ 0 (.int .i64 cx.x) rfl;have f1:=HPb.out.cell_ 1 (.int .i64 cx.y) rfl;have f2:=HPb.out.cell_ 2 (.int .i64 cx.s) rfl;go_upto_region 15 with fail
      go_quiet (fail)
      clear f0 f1 f2;have HOq01:=hid (HOl.out.drewN nq);have HBq01:=hid (below_drewN HBb.out nq);have HPq01:=hid (HPb.out.drewN nq);generalize wb.drewN nq=wq01 at *;have HST:=hid (step_of (bx:=bx) (t:=t) (a:=t) (g:=t) (c:=cx) (b:=false) (by unfold lineE;rw[if_neg (by have:=HLL.out;omega)]) (by unfold gapE;(try dsimp only);rw[if_neg (by have:=HG.out;first | omega | (dsimp only;omega))]) (HI.out));have h0:=HPq01.out.cell_ 0 (.int .i64 cx.x) rfl;have h1:=HPq01.out.cell_ 1 (.int .i64 cx.y) rfl;have h2:=HPq01.out.cell_ 2 (.int .i64 cx.s) rfl;have hlen1:(l0).length < 4294967296:=by have h1:=HWN.out.1.n;have h2:=HWN.out.2.2;omega
      have hbs1:w3.heap.size≤wq01.heap.size:=HBq01.out.size;go_wp2_with (at_builtin;refine wpList_pushPB rfl _ _ _ rfl w3.heap.size 107 Tryz.underlying105 Tryz.infoRun _ (l0) rfl HOq01.out _ _ rfl hlen1 hbs1 ?_);intro v1 wp1 ho1 hbl1 hkp1;obtain⟨l1,hl1⟩:∃ l1,l1=l0 ++ [(1,cx.s)]:=⟨_,rfl⟩
      have HO1:Hid (OwnP 107 wp1 w3.heap.size v1 l1):=hid (by rw[hl1];exact ho1);have hn1:l1.length=(l0).length+1:=by rw[hl1];simp
      have HLE1:=hid hl1;have HLN1:=hid hn1;clear hl1 hn1;have HB1':=hid (HBq01.out.trans hbl1);have HP1:=hid (hkp1 _ 114 _ (by decide) HPq01.out);clear ho1 hbl1 hkp1 hlen1 hbs1;clear h0 h1 h2;have hwx:wrap64 (cx.x+1)=cx.x+1:=by have:=HWN.out.2.1.1;unfold wrap64;omega
      have z0:=HP1.out.cell_ 0 (.int .i64 cx.x) rfl;have z1:=HP1.out.cell_ 1 (.int .i64 cx.y) rfl;have z2:=HP1.out.cell_ 2 (.int .i64 cx.s) rfl;go_wp2;go_roundw
      case rel=>
       refine⟨k+1,by omega,by go_num,by rw[HT.out,HST.out],by rw[HT.out,HST.out],?_,HB1'⟩;have hx:=HO1.out;rw[HLE1.out] at hx;rw[HT.out,HST.out];rw[HLE0.out] at hx;exact hid hx
      case measure=>simp[intOf];omega
     ·rw[List.concat_eq_append] at hl0;have hpos:0 < l0.length:=by rw[hl0];simp
      have dge:decide ((0:Int)≤(l0.length:Int) - 1)=true:=decide_eq_true (by omega);have dge1:decide ((1:Int)≤(l0.length:Int))=true:=decide_eq_true (by omega);have dge2:1≤l0.length:=hpos;obtain⟨bR,oR,hAr,-,hr1,hr2⟩:=hptr.at_ (k:=l0.length - 1) (by omega);have hlast:l0[l0.length - 1]=rr:=by simp[hl0]
      rw[hlast] at hr1 hr2;clear hlast;have HL0:=hid hl0;have HIN:Hid (incs t t.x cx=(decide (cx.x=t.x) && decide (rr.2=cx.s))):=hid (by unfold incs;rw[← HLE0.out,hl0];simp);clear hl0;by_cases hX:cx.x=t.x
      ·have dX:(cx.x == t.x)=true:=by simp[hX]
       by_cases hS:rr.2=cx.s
       ·have dS:(rr.2 == cx.s)=true:=by simp[hS]
        have HI:Hid (incs t t.x cx=true):=hid (by rw[HIN.out,decide_eq_true hX,decide_eq_true hS];rfl);have hrb:0≤rr.1∧rr.1≤k:=HWN.out.1.c rr (by rw[← HLE0.out,HL0.out];simp) (by have:=HWN.out.2.1.2.2;rw[hS];omega);have hwr:wrap64 (rr.1+1)=rr.1+1:=by unfold wrap64;omega
        clear hX hS hrb;rcases HOl.out.2 with ⟨hz,-⟩ | ⟨gR,capR,curR,hz,hgb,hgr,hgx⟩
        ·injection hz with hz1 hz2
         omega
        ·injection hz with hz1 hz2 hz3
         subst hz1;injection hAr with hAr
         injection hAr with hA1 hA2
         subst hA1 hA2 hz3;simp only[Nat.zero_add] at hr1 hr2;have HGB:=hid hgb;have HGR:=hid hgr;clear hz2 hgb hgx hptr hnr hgr;have f0:=HPb.out.cell_ 0 (.int .i64 cx.x) rfl;have f1:=HPb.out.cell_ 1 (.int .i64 cx.y) rfl;have f2:=HPb.out.cell_ 2 (.int .i64 cx.s) rfl;go_upto_region 15 with fail
         go_quiet (fail)
         clear f0 f1 f2;have hr3:(wb.drewN nq).cell? ⟨gR,(l0.length - 1)*2,none⟩=some (.int .i64 rr.1):=hr1;have hgr2:Blk (wb.drewN nq) gR 107 curR:=HGR.out;clear hr1 hr2 HGR;have HOq01:=hid (HOl.out.drewN nq);have HBq01:=hid (below_drewN HBb.out nq);have HPq01:=hid (HPb.out.drewN nq);generalize wb.drewN nq=wq01 at *;have HGR:=hid hgr2;have hfz:=hgr2.frozen ((l0.length - 1)*2);clear hgr2;go_upto_region 16 with fail
         go_region
         have hnq:l0.length - 1=q.length:=by rw[HL0.out];simp
         have hnl:l0.length=(q ++ [(rr.1+1,rr.2)]).length:=by rw[HL0.out];simp
         have hst:=World.ownsRow.stored (w:=wq01) (base:=w3.heap.size) (e:=107) (size:=2) (n:=l0.length) (xs:=l0.flatMap ptCells) HOq01.out ((l0.length - 1)*2) (.int .i64 (rr.1+1));have HOz:Hid (OwnP 107 ((wq01.setCell ⟨gR,(l0.length - 1)*2,none⟩ (.int .i64 (rr.1+1))).drew) w3.heap.size (.slice (some ⟨gR,0,none⟩) l0.length a2) (q ++ [(rr.1+1,rr.2)])):=hid (by
          unfold OwnP;rw[← flat_snoc q rr (rr.1+1),← hnl,← hnq,← HL0.out];exact hst.1)
         have HBz:Hid (Below w3.heap.size w3 ((wq01.setCell ⟨gR,(l0.length - 1)*2,none⟩ (.int .i64 (rr.1+1))).drew)):=hid (HBq01.out.setCell (p:=⟨gR,(l0.length - 1)*2,none⟩) HGB.out _).drew;have HPz:Hid (Blk ((wq01.setCell ⟨gR,(l0.length - 1)*2,none⟩ (.int .i64 (rr.1+1))).drew) wr.heap.size 114 #[.int .i64 cx.x,.int .i64 cx.y,.int .i64 cx.s]):=hid (HPq01.out.far (p:=⟨gR,(l0.length - 1)*2,none⟩) (HPq01.out.ne_ HGR.out (by decide)) _).drew;have HST:=hid (step_of (bx:=bx) (t:=t) (a:=t) (g:=t) (c:=cx) (b:=true) (by unfold lineE;rw[if_neg (by have:=HLL.out;omega)]) (by unfold gapE;rw[if_neg (by have:=HG.out;omega)]) (HI.out));have HBM:Hid (bump t.out=q ++ [(rr.1+1,rr.2)]):=hid (by rw[← HLE0.out,HL0.out];unfold bump;simp);clear hnq hnl hst hfz hr3;generalize (wq01.setCell ⟨gR,(l0.length - 1)*2,none⟩ (.int .i64 (rr.1+1))).drew=wz at *;have z0:=HPz.out.cell_ 0 (.int .i64 cx.x) rfl;have z1:=HPz.out.cell_ 1 (.int .i64 cx.y) rfl;have z2:=HPz.out.cell_ 2 (.int .i64 cx.s) rfl;have hwx:wrap64 (cx.x+1)=cx.x+1:=by have:=HWN.out.2.1.1;unfold wrap64;omega
         go_wp2;go_roundw
         case rel=>
          refine⟨k+1,by omega,by go_num,by rw[HT.out,HST.out],by rw[HT.out,HST.out],?_,HBz⟩;rw[HT.out,HST.out];show Hid (OwnP 107 wz w3.heap.size _ (bump t.out));rw[HBM.out];exact HOz
         case measure=>simp[intOf];omega
       ·have dS:(rr.2 == cx.s)=false:=by simpa using hS
        have HI:Hid (incs t t.x cx=false):=hid (by rw[HIN.out,decide_eq_false hS,Bool.and_false]);subst hAr;clear hX hS;have f0:=HPb.out.cell_ 0 (.int .i64 cx.x) rfl;have f1:=HPb.out.cell_ 1 (.int .i64 cx.y) rfl;have f2:=HPb.out.cell_ 2 (.int .i64 cx.s) rfl;go_upto_region 15 with fail
        go_quiet (fail)
        clear f0 f1 f2;have HOq01:=hid (HOl.out.drewN nq);have HBq01:=hid (below_drewN HBb.out nq);have HPq01:=hid (HPb.out.drewN nq);generalize wb.drewN nq=wq01 at *;have HST:=hid (step_of (bx:=bx) (t:=t) (a:=t) (g:=t) (c:=cx) (b:=false) (by unfold lineE;rw[if_neg (by have:=HLL.out;omega)]) (by unfold gapE;(try dsimp only);rw[if_neg (by have:=HG.out;first | omega | (dsimp only;omega))]) (HI.out));have h0:=HPq01.out.cell_ 0 (.int .i64 cx.x) rfl;have h1:=HPq01.out.cell_ 1 (.int .i64 cx.y) rfl;have h2:=HPq01.out.cell_ 2 (.int .i64 cx.s) rfl;have hlen1:(l0).length < 4294967296:=by have h1:=HWN.out.1.n;have h2:=HWN.out.2.2;omega
        have hbs1:w3.heap.size≤wq01.heap.size:=HBq01.out.size;go_wp2_with (at_builtin;refine wpList_pushPB rfl _ _ _ rfl w3.heap.size 107 Tryz.underlying105 Tryz.infoRun _ (l0) rfl HOq01.out _ _ rfl hlen1 hbs1 ?_);intro v1 wp1 ho1 hbl1 hkp1;obtain⟨l1,hl1⟩:∃ l1,l1=l0 ++ [(1,cx.s)]:=⟨_,rfl⟩
        have HO1:Hid (OwnP 107 wp1 w3.heap.size v1 l1):=hid (by rw[hl1];exact ho1);have hn1:l1.length=(l0).length+1:=by rw[hl1];simp
        have HLE1:=hid hl1;have HLN1:=hid hn1;clear hl1 hn1;have HB1':=hid (HBq01.out.trans hbl1);have HP1:=hid (hkp1 _ 114 _ (by decide) HPq01.out);clear ho1 hbl1 hkp1 hlen1 hbs1;clear h0 h1 h2;have hwx:wrap64 (cx.x+1)=cx.x+1:=by have:=HWN.out.2.1.1;unfold wrap64;omega
        have z0:=HP1.out.cell_ 0 (.int .i64 cx.x) rfl;have z1:=HP1.out.cell_ 1 (.int .i64 cx.y) rfl;have z2:=HP1.out.cell_ 2 (.int .i64 cx.s) rfl;go_wp2;go_roundw
        case rel=>
         refine⟨k+1,by omega,by go_num,by rw[HT.out,HST.out],by rw[HT.out,HST.out],?_,HB1'⟩;have hx:=HO1.out;rw[HLE1.out] at hx;rw[HT.out,HST.out];rw[HLE0.out] at hx;exact hid hx
        case measure=>simp[intOf];omega
      ·have dX:(cx.x == t.x)=false:=by simpa using hX
       have HI:Hid (incs t t.x cx=false):=hid (by rw[HIN.out,decide_eq_false hX];rfl);clear hX hptr hnr hAr;have f0:=HPb.out.cell_ 0 (.int .i64 cx.x) rfl;have f1:=HPb.out.cell_ 1 (.int .i64 cx.y) rfl;have f2:=HPb.out.cell_ 2 (.int .i64 cx.s) rfl;go_upto_region 15 with fail
       go_quiet (fail)
       clear f0 f1 f2;have HOq01:=hid (HOl.out.drewN nq);have HBq01:=hid (below_drewN HBb.out nq);have HPq01:=hid (HPb.out.drewN nq);generalize wb.drewN nq=wq01 at *;have HST:=hid (step_of (bx:=bx) (t:=t) (a:=t) (g:=t) (c:=cx) (b:=false) (by unfold lineE;rw[if_neg (by have:=HLL.out;omega)]) (by unfold gapE;(try dsimp only);rw[if_neg (by have:=HG.out;first | omega | (dsimp only;omega))]) (HI.out));have h0:=HPq01.out.cell_ 0 (.int .i64 cx.x) rfl;have h1:=HPq01.out.cell_ 1 (.int .i64 cx.y) rfl;have h2:=HPq01.out.cell_ 2 (.int .i64 cx.s) rfl;have hlen1:(l0).length < 4294967296:=by have h1:=HWN.out.1.n;have h2:=HWN.out.2.2;omega
       have hbs1:w3.heap.size≤wq01.heap.size:=HBq01.out.size;go_wp2_with (at_builtin;refine wpList_pushPB rfl _ _ _ rfl w3.heap.size 107 Tryz.underlying105 Tryz.infoRun _ (l0) rfl HOq01.out _ _ rfl hlen1 hbs1 ?_);intro v1 wp1 ho1 hbl1 hkp1;obtain⟨l1,hl1⟩:∃ l1,l1=l0 ++ [(1,cx.s)]:=⟨_,rfl⟩
       have HO1:Hid (OwnP 107 wp1 w3.heap.size v1 l1):=hid (by rw[hl1];exact ho1);have hn1:l1.length=(l0).length+1:=by rw[hl1];simp
       have HLE1:=hid hl1;have HLN1:=hid hn1;clear hl1 hn1;have HB1':=hid (HBq01.out.trans hbl1);have HP1:=hid (hkp1 _ 114 _ (by decide) HPq01.out);clear ho1 hbl1 hkp1 hlen1 hbs1;clear h0 h1 h2;have hwx:wrap64 (cx.x+1)=cx.x+1:=by have:=HWN.out.2.1.1;unfold wrap64;omega
       have z0:=HP1.out.cell_ 0 (.int .i64 cx.x) rfl;have z1:=HP1.out.cell_ 1 (.int .i64 cx.y) rfl;have z2:=HP1.out.cell_ 2 (.int .i64 cx.s) rfl;go_wp2;go_roundw
       case rel=>
        refine⟨k+1,by omega,by go_num,by rw[HT.out,HST.out],by rw[HT.out,HST.out],?_,HB1'⟩;have hx:=HO1.out;rw[HLE1.out] at hx;rw[HT.out,HST.out];rw[HLE0.out] at hx;exact hid hx
       case measure=>simp[intOf];omega
  ·obtain rfl:k=ps.length:=by omega
   obtain⟨A2,a2,rfl,hpt,hnew⟩:=HO.out.pts;have HR:=hid (And.intro hpt hnew);clear hpt hnew;go_wp2;go_ret;show RetOwnP (runsL ps) w _ _;rw[HF.out];exact⟨_,w3.heap.size,rfl,HB3.out.size,HO.out,HBW.out⟩
end Go.Proofs.YtcfelnhmifkelaaGreatDoor
namespace Go.Proofs.YtcfelnhmifkelaaGreatDoor
set_option linter.unusedSimpArgs false
open Go.RowKit
set_option linter.unusedVariables false

theorem chain_at:∀ {ps:List Cel}{p:Option Cel},chainB p ps=true→∀ k,(h:k+1 < ps.length)→befB ps[k] ps[k+1]=true
 | [],_,_,k,h=>by simp at h
 | [a],_,_,k,h=>by simp at h
 | a :: b :: l,p,hc,k,h=>by
  rw[chainB,Bool.and_eq_true] at hc;cases k with
  | zero=>
   have h2:=hc.2;rw[chainB,Bool.and_eq_true] at h2;have h3:=h2.1;unfold okB at h3;simp only[Bool.and_eq_true] at h3;exact h3.2
  | succ k=>exact chain_at (ps:=b :: l) hc.2 k (by simpa using h)
theorem bef_y {a b:Cel}(h:befB a b=true):a.y≤b.y∧(a.y=b.y→a.x < b.x):=by
 unfold befB at h;simp only[Bool.or_eq_true,Bool.and_eq_true,decide_eq_true_eq,beq_iff_eq] at h;omega
theorem box_hd {ps:List Cel}(h:(boxC ps).2=true):(boxC ps).1.y=(hdC ps).y:=by
 unfold boxC at *
 split at h
 ·rename_i hc;rw[if_pos hc]
 ·cases h
def LastIs (t:RS)(a:Cel):Prop:=t.x=a.x+1∧t.y=a.y∧∃ m,t.out.getLast?=some (m,a.s)
theorem LastIs.step {bx:Int}{t:RS}{c:Cel}(hy:t.y≤c.y):LastIs (stepR bx t c) c:=by
 refine⟨rfl,?_,?_⟩
 ·show (lineE bx t c).y=c.y;unfold lineE
  split
  ·rfl
  ·omega
 ·show ∃ m,(if incs (gapE (lineE bx t c) c) (lineE bx t c).x c=true then bump (gapE (lineE bx t c) c).out else (gapE (lineE bx t c) c).out ++ [(1,c.s)]).getLast?=some (m,c.s)
  split
  ·rename_i h;unfold incs at h
   split at h
   ·cases h
   ·rename_i r hr;simp only[Bool.and_eq_true,decide_eq_true_eq] at h;refine⟨r.1+1,?_⟩;unfold bump;rw[hr];simp[h.2]
  ·exact⟨1,by simp⟩
theorem runs_last {bx:Int}{ps:List Cel}(hr:rightC ps=true):∀ k,(hk:k < ps.length)→(runsSt bx (hdC ps).y ps k).y≤ps[k].y∧LastIs (runsSt bx (hdC ps).y ps (k+1)) ps[k]:=by
 have hc:chainB none ps=true:=by unfold rightC at hr;simp only[Bool.and_eq_true] at hr;exact hr.2
 intro k;induction k with
 | zero=>
  intro hk;have h0:(runsSt bx (hdC ps).y ps 0).y≤ps[0].y:=by
   have:hdC ps=ps[0]:=by cases ps with | nil=>simp at hk | cons a l=>rfl
   rw[this];exact Int.le_refl _
  exact⟨h0,by rw[runs_snoc _ _ hk];exact LastIs.step h0⟩
 | succ k ih=>
  intro hk;have h1:=(ih (by omega)).2;have h0:(runsSt bx (hdC ps).y ps (k+1)).y≤ps[k+1].y:=by rw[h1.2.1];exact (bef_y (chain_at hc k hk)).1
  exact⟨h0,by rw[runs_snoc _ _ hk];exact LastIs.step h0⟩
end Go.Proofs.YtcfelnhmifkelaaGreatDoor
