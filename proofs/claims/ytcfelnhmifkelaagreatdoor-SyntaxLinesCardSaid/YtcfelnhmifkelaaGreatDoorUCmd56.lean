/-
  texts Cmd56: parts of the proof; conditions stand with each theorem.
-/
import Derived.Test.YtcfelnhmifkelaaGreatDoorUG22
import Derived.Test.YtcfelnhmifkelaaGreatDoorUG19
namespace Go.Proofs.YtcfelnhmifkelaaGreatDoor
open Lib(hid)
open Go.RowKit
set_option maxRecDepth 100000
set_option linter.unusedVariables false
set_option linter.unusedSimpArgs false
set_option maxHeartbeats 32000000 in
theorem command_any (f:Form)(sv:Value)(A:Option Addr)(c:Nat)(bs:List ByteArray)(w:World)(hg:GCell w)(he:ErrV w)(hsl:SlA w sv f.slots)(hA:Sts w A bs)(hl:bs.length=f.slots.length+1)(hb6:bs.length≤1000000)(hl31:∀ b ∈ bs,b.data.toList.length≤1000000)(hfld:∀ s ∈ f.slots,s.k=4→FldOk s.fld) :
  Calls Tryz.prog 28 #[formV f sv,.slice A bs.length c] w (RetCm (cmdP f (wdL bs)) w):=by
 obtain⟨SA,sc,rfl⟩:=hsl.form;obtain⟨wd,kd,ss⟩:=f;dsimp only at hsl hl hfld ⊢;obtain⟨b,o,rfl,-,-⟩:=hA.at_ (k:=0) (by omega);have hs6:ss.length≤1000000:=by omega
 obtain⟨ws,hws⟩:∃ x,x=(wdL bs).tail:=⟨_,rfl⟩
 obtain⟨nOK,hnok⟩:∃ x,x=namesTo ss ws:=⟨_,rfl⟩
 obtain⟨fil,hfil⟩:∃ x,x=fillTo ss ws { cmd0 with kind:=kd }:=⟨_,rfl⟩
 obtain⟨r,hr⟩:∃ r,r=cmdP ⟨wd,kd,ss⟩ (wdL bs):=⟨_,rfl⟩
 rw[← hr];have HR:Hid (r=if nOK=false then (cmd0,7) else match fil with | none=>(cmd0,5) | some c=>runsTo ss ws c):=hid (by rw[hr,hnok,hfil,hws];rfl);have HNK:=hid hnok;have HFIL:=hid hfil;have HWS:=hid hws;have HSL:=hid hsl;have HA:=hid hA;have HL31:=hid hl31;have HL:=hid hl;have HG:=hid hg;have HE:=hid he;have HFLD:=hid hfld;have HS6:=hid hs6;clear hr hnok hfil hws hsl hA hl31 hg he hfld hb6 hl;unfold formV;dsimp only;obtain⟨w3,hw3⟩:∃ W,W=((w.alloc (.cells #[.string ⟨wd.toArray⟩,.int .i64 kd,.slice SA ss.length sc] 52)).alloc (.cells #[.int .i64 0,.int .i64 0,.int .i64 0,.int .i64 0,.int .i64 0,.string ⟨#[]⟩,.slice none 0 0,.int .i64 0,.int .i64 0,.int .i64 0] 34)).alloc (.cells #[.int .i64 kd,.int .i64 0,.int .i64 0,.int .i64 0,.int .i64 0,.string ⟨#[]⟩,.slice none 0 0,.int .i64 0,.int .i64 0,.int .i64 0] 34):=⟨_,rfl⟩
 have hz:w3.heap.size=w.heap.size+3:=by rw[hw3];simp
 have hk0:Blk w3 w.heap.size 52 #[.string ⟨wd.toArray⟩,.int .i64 kd,.slice SA ss.length sc]:=by rw[hw3];exact ((Blk.new w _ _).alloc _).alloc _
 have hk1:Blk w3 (w.heap.size+1) 34 #[.int .i64 0,.int .i64 0,.int .i64 0,.int .i64 0,.int .i64 0,.string ⟨#[]⟩,.slice none 0 0,.int .i64 0,.int .i64 0,.int .i64 0]:=by
  rw[hw3];have h:=Blk.new (w.alloc (.cells #[.string ⟨wd.toArray⟩,.int .i64 kd,.slice SA ss.length sc] 52)) 34 #[.int .i64 0,.int .i64 0,.int .i64 0,.int .i64 0,.int .i64 0,.string ⟨#[]⟩,.slice none 0 0,.int .i64 0,.int .i64 0,.int .i64 0];rw[World.size_alloc] at h;exact h.alloc _
 have hk2:Blk w3 (w.heap.size+2) 34 (cmdB { cmd0 with kind:=kd } (.slice none 0 0)):=by
  rw[hw3];have h:=Blk.new ((w.alloc (.cells #[.string ⟨wd.toArray⟩,.int .i64 kd,.slice SA ss.length sc] 52)).alloc (.cells #[.int .i64 0,.int .i64 0,.int .i64 0,.int .i64 0,.int .i64 0,.string ⟨#[]⟩,.slice none 0 0,.int .i64 0,.int .i64 0,.int .i64 0] 34)) 34 #[.int .i64 kd,.int .i64 0,.int .i64 0,.int .i64 0,.int .i64 0,.string ⟨#[]⟩,.slice none 0 0,.int .i64 0,.int .i64 0,.int .i64 0];rw[World.size_alloc,World.size_alloc] at h;exact h
 have hb3:Below w.heap.size w w3:=by rw[hw3];exact (((Below.refl _ w).alloc (Nat.le_refl _) _).alloc (by simp) _).alloc (by simp;omega) _
 have x2:=hk0.cell_ 2 _ rfl;have HZ:=hid hz;have HK0:=hid hk0;have HK1:=hid hk1;have HK2:=hid hk2;have HB3:=hid hb3;clear hk0 hk1 hk2 hb3 hz;go_enter Tryz.func28,Tryz.ntmps28;go_upto_region 2 with fail
 rw[← hw3];clear hw3;go_wp2;clear x2;go_loopw [25] (fun iv wr=>∃ k:Nat,k≤ss.length∧iv=.int .i64 k∧Hid (Below w3.heap.size w3 wr)∧Hid (namesTo (ss.drop k) (ws.drop k)=nOK)) (fun iv _=>ss.length - (intOf iv).toNat)
 case atStart=>exact⟨0,Nat.zero_le _,rfl,hid (Below.refl _ _),hid HNK.out.symm⟩
 case round=>
  obtain⟨k,hk,rfl,HBq,HT⟩:=hrel;have hwk:wrap64 ((k:Int)+1)=(k:Int)+1:=by have:=HS6.out;unfold wrap64;omega
  have hwk2:IntKind.i64.wrap ((k:Int)+1)=(k:Int)+1:=IntWalk.i64_in _ (by have:=HS6.out;omega);have HB:=hid (HB3.out.trans (HBq.out.mono HB3.out.size));by_cases hlt:k < ss.length
  ·obtain⟨sb,so,sc',e,-,q0,q1,q2,q3,q4⟩:=(HSL.out.ext HB.out).at_ hlt;injection e with e1 e2 e3
   subst e1 e3;have hkb:k+1 < bs.length:=by have:=HL.out;omega
   obtain⟨b',o',e',-,cw⟩:=(HA.out.ext HB.out).at_ hkb;injection e' with e'
   injection e' with e1 e2
   subst e1 e2;have hw9:k < (wdL bs).tail.length:=by unfold wdL;rw[List.length_tail,List.length_map];omega
   have hwe:(wdL bs).tail[k]=bs[k+1].data.toList:=wdL_tail hkb hw9;have hws3:k < ws.length:=by rw[HWS.out];exact hw9
   have hat:=namesTo_at (ss:=ss) (ws:=ws) hlt hws3;have hwe3:ws[k]=(wdL bs).tail[k]:=by have:=HWS.out;subst this;rfl
   rw[hwe3] at hat;clear hwe3;rw[hwe] at hat;have hy31:=HL31.out _ (List.getElem_mem hkb);have hfo:=HFLD.out ss[k] (List.getElem_mem hlt);obtain⟨s0,hs0⟩:∃ s,s=ss[k]:=⟨_,rfl⟩
   obtain⟨y,hy⟩:∃ y,y=bs[k+1]:=⟨_,rfl⟩
   rw[← hs0] at q0 q1 q2 q3 q4 hat hfo;rw[← hy] at cw hat hy31;have hf:=fldV_or s0.fld;obtain⟨fv,hfv⟩:∃ fv,fv=fldV s0.fld:=⟨_,rfl⟩
   rw[← hfv] at q2 hf;have HAT:=hid hat;have HLT:=hid hlt;have HY:=hid hy31;have HFO:=hid hfo;have HFV:=hid hfv;have hk1:((k:Int)+1).toNat=k+1:=by omega
   have hk2:(k:Int)+1 < (bs.length:Int):=by omega
   clear hs0 hy hfv hat hw9 hwe hy31 hfo hkb;rcases hf with hf | ⟨fn,hf⟩
   ·subst hf;obtain⟨w6,hw6⟩:∃ W,W=wr.alloc (.cells #[.int .i64 (s0.k:Int),.string ⟨s0.text.toArray⟩,.nilFunc,.int .i64 s0.lo,.int .i64 s0.hi] 60):=⟨_,rfl⟩
    obtain⟨p6,hp6⟩:∃ p,p=wr.heap.size:=⟨_,rfl⟩
    have hk6:Blk w6 p6 60 #[.int .i64 (s0.k:Int),.string ⟨s0.text.toArray⟩,.nilFunc,.int .i64 s0.lo,.int .i64 s0.hi]:=by rw[hw6,hp6];exact Blk.new _ _ _
    have hb6x:Below wr.heap.size wr w6:=by rw[hw6];exact below_new _ _
    have cw6:=hb6x.cell (p:=⟨b,o+(k+1),none⟩) (World.block_lt_of_cell? _ _ cw);rw[cw] at cw6;have HB6:=hid (HB.out.trans (hb6x.mono HB.out.size));have HB6X:=hid (HBq.out.trans (hb6x.mono HBq.out.size));have HBW6:=HB6;have y0:=hk6.cell_ 0 _ rfl;have HK6:=hid hk6;clear hk6 hb6x;go_upto_region 5 with fail
    rw[← hw6,← hp6];clear hw6 hp6 q0 q1 q2 q3 q4 cw;by_cases hk0:s0.k=1
    ·have e0:((s0.k:Int) == 1)=true:=by rw[hk0];rfl
     have e4:((s0.k:Int) == 2)=false:=by rw[hk0];rfl
     have HC:=hid (isRule_any y w6 (HG.out.ext HBW6.out) (HE.out.ext HBW6.out) (by have:=HY.out;omega));go_wp2_with (go_at_call 42;refine HC.out.mono ?_;intro e w7 hx;obtain⟨rfl,hb7⟩:=hx;refine Hid.out ?_);refine hid ?_;have HB9:=hid (HB6X.out.trans (hb7.mono HB6X.out.size));have hk7:=HK6.out.below hb7 HK6.out.lt;have y7:=hk7.cell_ 0 _ rfl;clear hb7 hk7 HC HK6;obtain⟨bv,hbv⟩:∃ b,b=ruleV y.data.toList:=⟨_,rfl⟩
     rw[← hbv];cases bv with
     | true=>
      have HBN:badName s0 y.data.toList=false:=by unfold badName;rw[hk0,← hbv];rfl
      clear hbv;have HN:Hid (namesTo (ss.drop (k+1)) (ws.drop (k+1))=nOK):=hid (by rw[← HT.out,HAT.out,HBN];rfl);go_wp2;go_roundw
      case rel=>exact⟨k+1,HLT.out,(by first | rfl | (rw[hwk];rfl)),HB9,HN⟩
      case measure=>(try rw[hwk]);exact meas_step5b HLT.out
     | false=>
      have HBN:badName s0 y.data.toList=true:=by unfold badName;rw[hk0,← hbv];rfl
      clear hbv;have HNO:Hid (nOK=false):=hid (by rw[← HT.out,HAT.out,HBN];rfl);have k1:=HK1.out.below HB9.out (by have:=HZ.out;omega);have hbw:=HB3.out.trans (HB9.out.mono HB3.out.size);have HN:Hid (r=(cmd0,7)):=hid (by rw[HR.out,if_pos HNO.out]);have r0:=k1.cell_ 0 _ rfl;have g0:=k1.frozen 0;have r1:=k1.cell_ 1 _ rfl;have g1:=k1.frozen 1;have r2:=k1.cell_ 2 _ rfl;have g2:=k1.frozen 2;have r3:=k1.cell_ 3 _ rfl;have g3:=k1.frozen 3;have r4:=k1.cell_ 4 _ rfl;have g4:=k1.frozen 4;have r5:=k1.cell_ 5 _ rfl;have g5:=k1.frozen 5;have r6:=k1.cell_ 6 _ rfl;have g6:=k1.frozen 6;have r7:=k1.cell_ 7 _ rfl;have g7:=k1.frozen 7;have r8:=k1.cell_ 8 _ rfl;have g8:=k1.frozen 8;have r9:=k1.cell_ 9 _ rfl;have g9:=k1.frozen 9;have HQ1:=hid k1;have HQW:=hid hbw;clear k1 hbw;go_wp2;(try simp only[Exit.inBlock,Exit.then]);refine bodyPost_ret (results_ct56 Tryz.results28 _ _ (w.heap.size+1) 34 #[.int .i64 0,.int .i64 0,.int .i64 0,.int .i64 0,.int .i64 0,.string ⟨#[]⟩,.slice none 0 0,.int .i64 0,.int .i64 0,.int .i64 0] (0,0) _ rfl (blk_set10 HQ1.out (.int .i64 0) (.int .i64 0) (.int .i64 0) (.int .i64 0) (.int .i64 0) (.string ⟨#[]⟩) (.slice none 0 0) (.int .i64 0) (.int .i64 0) (.int .i64 0)) Tryz.underlying34 rfl Tryz.sizeCommand) rfl ?_;exact RetCm.bad HN.out (below_set10 HQW.out (by omega) (.int .i64 0) (.int .i64 0) (.int .i64 0) (.int .i64 0) (.int .i64 0) (.string ⟨#[]⟩) (.slice none 0 0) (.int .i64 0) (.int .i64 0) (.int .i64 0))
    ·have e0:((s0.k:Int) == 1)=false:=beq_false_of_ne (by omega);have hk1':=hk0;clear hk0;by_cases hk0:s0.k=2
     ·have e4:((s0.k:Int) == 2)=true:=by rw[hk0];rfl
      have HC:=hid (isName_any y w6 (by have:=HY.out;omega));go_wp2_with (go_at_call 43;refine HC.out.mono ?_;intro e w7 hx;obtain⟨rfl,hb7⟩:=hx;refine Hid.out ?_);refine hid ?_;have HB9:=hid (HB6X.out.trans (hb7.mono HB6X.out.size));have hk7:=HK6.out.below hb7 HK6.out.lt;have y7:=hk7.cell_ 0 _ rfl;clear hb7 hk7 HC HK6;obtain⟨bv,hbv⟩:∃ b,b=nmW y.data.toList:=⟨_,rfl⟩
      rw[← hbv];cases bv with
      | true=>
       have HBN:badName s0 y.data.toList=false:=by unfold badName;rw[hk0,← hbv];rfl
       clear hbv;have HN:Hid (namesTo (ss.drop (k+1)) (ws.drop (k+1))=nOK):=hid (by rw[← HT.out,HAT.out,HBN];rfl);go_wp2;go_roundw
       case rel=>exact⟨k+1,HLT.out,(by first | rfl | (rw[hwk];rfl)),HB9,HN⟩
       case measure=>(try rw[hwk]);exact meas_step5b HLT.out
      | false=>
       have HBN:badName s0 y.data.toList=true:=by unfold badName;rw[hk0,← hbv];rfl
       clear hbv;have HNO:Hid (nOK=false):=hid (by rw[← HT.out,HAT.out,HBN];rfl);have k1:=HK1.out.below HB9.out (by have:=HZ.out;omega);have hbw:=HB3.out.trans (HB9.out.mono HB3.out.size);have HN:Hid (r=(cmd0,7)):=hid (by rw[HR.out,if_pos HNO.out]);have r0:=k1.cell_ 0 _ rfl;have g0:=k1.frozen 0;have r1:=k1.cell_ 1 _ rfl;have g1:=k1.frozen 1;have r2:=k1.cell_ 2 _ rfl;have g2:=k1.frozen 2;have r3:=k1.cell_ 3 _ rfl;have g3:=k1.frozen 3;have r4:=k1.cell_ 4 _ rfl;have g4:=k1.frozen 4;have r5:=k1.cell_ 5 _ rfl;have g5:=k1.frozen 5;have r6:=k1.cell_ 6 _ rfl;have g6:=k1.frozen 6;have r7:=k1.cell_ 7 _ rfl;have g7:=k1.frozen 7;have r8:=k1.cell_ 8 _ rfl;have g8:=k1.frozen 8;have r9:=k1.cell_ 9 _ rfl;have g9:=k1.frozen 9;have HQ1:=hid k1;have HQW:=hid hbw;clear k1 hbw;go_wp2;(try simp only[Exit.inBlock,Exit.then]);refine bodyPost_ret (results_ct56 Tryz.results28 _ _ (w.heap.size+1) 34 #[.int .i64 0,.int .i64 0,.int .i64 0,.int .i64 0,.int .i64 0,.string ⟨#[]⟩,.slice none 0 0,.int .i64 0,.int .i64 0,.int .i64 0] (0,0) _ rfl (blk_set10 HQ1.out (.int .i64 0) (.int .i64 0) (.int .i64 0) (.int .i64 0) (.int .i64 0) (.string ⟨#[]⟩) (.slice none 0 0) (.int .i64 0) (.int .i64 0) (.int .i64 0)) Tryz.underlying34 rfl Tryz.sizeCommand) rfl ?_;exact RetCm.bad HN.out (below_set10 HQW.out (by omega) (.int .i64 0) (.int .i64 0) (.int .i64 0) (.int .i64 0) (.int .i64 0) (.string ⟨#[]⟩) (.slice none 0 0) (.int .i64 0) (.int .i64 0) (.int .i64 0))
     ·have e4:((s0.k:Int) == 2)=false:=beq_false_of_ne (by omega);have HBN:badName s0 y.data.toList=false:=by unfold badName;rw[decide_eq_false hk1',decide_eq_false hk0];rfl
      have HB9:=HB6X;clear hk0 hk1' HK6;have HN:Hid (namesTo (ss.drop (k+1)) (ws.drop (k+1))=nOK):=hid (by rw[← HT.out,HAT.out,HBN];rfl);go_wp2;go_roundw
      case rel=>exact⟨k+1,HLT.out,(by first | rfl | (rw[hwk];rfl)),HB9,HN⟩
      case measure=>(try rw[hwk]);exact meas_step5b HLT.out
   ·subst hf;obtain⟨w6,hw6⟩:∃ W,W=wr.alloc (.cells #[.int .i64 (s0.k:Int),.string ⟨s0.text.toArray⟩,.func fn #[] #[],.int .i64 s0.lo,.int .i64 s0.hi] 60):=⟨_,rfl⟩
    obtain⟨p6,hp6⟩:∃ p,p=wr.heap.size:=⟨_,rfl⟩
    have hk6:Blk w6 p6 60 #[.int .i64 (s0.k:Int),.string ⟨s0.text.toArray⟩,.func fn #[] #[],.int .i64 s0.lo,.int .i64 s0.hi]:=by rw[hw6,hp6];exact Blk.new _ _ _
    have hb6x:Below wr.heap.size wr w6:=by rw[hw6];exact below_new _ _
    have cw6:=hb6x.cell (p:=⟨b,o+(k+1),none⟩) (World.block_lt_of_cell? _ _ cw);rw[cw] at cw6;have HB6:=hid (HB.out.trans (hb6x.mono HB.out.size));have HB6X:=hid (HBq.out.trans (hb6x.mono HBq.out.size));have HBW6:=HB6;have y0:=hk6.cell_ 0 _ rfl;have HK6:=hid hk6;clear hk6 hb6x;go_upto_region 5 with fail
    rw[← hw6,← hp6];clear hw6 hp6 q0 q1 q2 q3 q4 cw;by_cases hk0:s0.k=1
    ·have e0:((s0.k:Int) == 1)=true:=by rw[hk0];rfl
     have e4:((s0.k:Int) == 2)=false:=by rw[hk0];rfl
     have HC:=hid (isRule_any y w6 (HG.out.ext HBW6.out) (HE.out.ext HBW6.out) (by have:=HY.out;omega));go_wp2_with (go_at_call 42;refine HC.out.mono ?_;intro e w7 hx;obtain⟨rfl,hb7⟩:=hx;refine Hid.out ?_);refine hid ?_;have HB9:=hid (HB6X.out.trans (hb7.mono HB6X.out.size));have hk7:=HK6.out.below hb7 HK6.out.lt;have y7:=hk7.cell_ 0 _ rfl;clear hb7 hk7 HC HK6;obtain⟨bv,hbv⟩:∃ b,b=ruleV y.data.toList:=⟨_,rfl⟩
     rw[← hbv];cases bv with
     | true=>
      have HBN:badName s0 y.data.toList=false:=by unfold badName;rw[hk0,← hbv];rfl
      clear hbv;have HN:Hid (namesTo (ss.drop (k+1)) (ws.drop (k+1))=nOK):=hid (by rw[← HT.out,HAT.out,HBN];rfl);go_wp2;go_roundw
      case rel=>exact⟨k+1,HLT.out,(by first | rfl | (rw[hwk];rfl)),HB9,HN⟩
      case measure=>(try rw[hwk]);exact meas_step5b HLT.out
     | false=>
      have HBN:badName s0 y.data.toList=true:=by unfold badName;rw[hk0,← hbv];rfl
      clear hbv;have HNO:Hid (nOK=false):=hid (by rw[← HT.out,HAT.out,HBN];rfl);have k1:=HK1.out.below HB9.out (by have:=HZ.out;omega);have hbw:=HB3.out.trans (HB9.out.mono HB3.out.size);have HN:Hid (r=(cmd0,7)):=hid (by rw[HR.out,if_pos HNO.out]);have r0:=k1.cell_ 0 _ rfl;have g0:=k1.frozen 0;have r1:=k1.cell_ 1 _ rfl;have g1:=k1.frozen 1;have r2:=k1.cell_ 2 _ rfl;have g2:=k1.frozen 2;have r3:=k1.cell_ 3 _ rfl;have g3:=k1.frozen 3;have r4:=k1.cell_ 4 _ rfl;have g4:=k1.frozen 4;have r5:=k1.cell_ 5 _ rfl;have g5:=k1.frozen 5;have r6:=k1.cell_ 6 _ rfl;have g6:=k1.frozen 6;have r7:=k1.cell_ 7 _ rfl;have g7:=k1.frozen 7;have r8:=k1.cell_ 8 _ rfl;have g8:=k1.frozen 8;have r9:=k1.cell_ 9 _ rfl;have g9:=k1.frozen 9;have HQ1:=hid k1;have HQW:=hid hbw;clear k1 hbw;go_wp2;(try simp only[Exit.inBlock,Exit.then]);refine bodyPost_ret (results_ct56 Tryz.results28 _ _ (w.heap.size+1) 34 #[.int .i64 0,.int .i64 0,.int .i64 0,.int .i64 0,.int .i64 0,.string ⟨#[]⟩,.slice none 0 0,.int .i64 0,.int .i64 0,.int .i64 0] (0,0) _ rfl (blk_set10 HQ1.out (.int .i64 0) (.int .i64 0) (.int .i64 0) (.int .i64 0) (.int .i64 0) (.string ⟨#[]⟩) (.slice none 0 0) (.int .i64 0) (.int .i64 0) (.int .i64 0)) Tryz.underlying34 rfl Tryz.sizeCommand) rfl ?_;exact RetCm.bad HN.out (below_set10 HQW.out (by omega) (.int .i64 0) (.int .i64 0) (.int .i64 0) (.int .i64 0) (.int .i64 0) (.string ⟨#[]⟩) (.slice none 0 0) (.int .i64 0) (.int .i64 0) (.int .i64 0))
    ·have e0:((s0.k:Int) == 1)=false:=beq_false_of_ne (by omega);have hk1':=hk0;clear hk0;by_cases hk0:s0.k=2
     ·have e4:((s0.k:Int) == 2)=true:=by rw[hk0];rfl
      have HC:=hid (isName_any y w6 (by have:=HY.out;omega));go_wp2_with (go_at_call 43;refine HC.out.mono ?_;intro e w7 hx;obtain⟨rfl,hb7⟩:=hx;refine Hid.out ?_);refine hid ?_;have HB9:=hid (HB6X.out.trans (hb7.mono HB6X.out.size));have hk7:=HK6.out.below hb7 HK6.out.lt;have y7:=hk7.cell_ 0 _ rfl;clear hb7 hk7 HC HK6;obtain⟨bv,hbv⟩:∃ b,b=nmW y.data.toList:=⟨_,rfl⟩
      rw[← hbv];cases bv with
      | true=>
       have HBN:badName s0 y.data.toList=false:=by unfold badName;rw[hk0,← hbv];rfl
       clear hbv;have HN:Hid (namesTo (ss.drop (k+1)) (ws.drop (k+1))=nOK):=hid (by rw[← HT.out,HAT.out,HBN];rfl);go_wp2;go_roundw
       case rel=>exact⟨k+1,HLT.out,(by first | rfl | (rw[hwk];rfl)),HB9,HN⟩
       case measure=>(try rw[hwk]);exact meas_step5b HLT.out
      | false=>
       have HBN:badName s0 y.data.toList=true:=by unfold badName;rw[hk0,← hbv];rfl
       clear hbv;have HNO:Hid (nOK=false):=hid (by rw[← HT.out,HAT.out,HBN];rfl);have k1:=HK1.out.below HB9.out (by have:=HZ.out;omega);have hbw:=HB3.out.trans (HB9.out.mono HB3.out.size);have HN:Hid (r=(cmd0,7)):=hid (by rw[HR.out,if_pos HNO.out]);have r0:=k1.cell_ 0 _ rfl;have g0:=k1.frozen 0;have r1:=k1.cell_ 1 _ rfl;have g1:=k1.frozen 1;have r2:=k1.cell_ 2 _ rfl;have g2:=k1.frozen 2;have r3:=k1.cell_ 3 _ rfl;have g3:=k1.frozen 3;have r4:=k1.cell_ 4 _ rfl;have g4:=k1.frozen 4;have r5:=k1.cell_ 5 _ rfl;have g5:=k1.frozen 5;have r6:=k1.cell_ 6 _ rfl;have g6:=k1.frozen 6;have r7:=k1.cell_ 7 _ rfl;have g7:=k1.frozen 7;have r8:=k1.cell_ 8 _ rfl;have g8:=k1.frozen 8;have r9:=k1.cell_ 9 _ rfl;have g9:=k1.frozen 9;have HQ1:=hid k1;have HQW:=hid hbw;clear k1 hbw;go_wp2;(try simp only[Exit.inBlock,Exit.then]);refine bodyPost_ret (results_ct56 Tryz.results28 _ _ (w.heap.size+1) 34 #[.int .i64 0,.int .i64 0,.int .i64 0,.int .i64 0,.int .i64 0,.string ⟨#[]⟩,.slice none 0 0,.int .i64 0,.int .i64 0,.int .i64 0] (0,0) _ rfl (blk_set10 HQ1.out (.int .i64 0) (.int .i64 0) (.int .i64 0) (.int .i64 0) (.int .i64 0) (.string ⟨#[]⟩) (.slice none 0 0) (.int .i64 0) (.int .i64 0) (.int .i64 0)) Tryz.underlying34 rfl Tryz.sizeCommand) rfl ?_;exact RetCm.bad HN.out (below_set10 HQW.out (by omega) (.int .i64 0) (.int .i64 0) (.int .i64 0) (.int .i64 0) (.int .i64 0) (.string ⟨#[]⟩) (.slice none 0 0) (.int .i64 0) (.int .i64 0) (.int .i64 0))
     ·have e4:((s0.k:Int) == 2)=false:=beq_false_of_ne (by omega);have HBN:badName s0 y.data.toList=false:=by unfold badName;rw[decide_eq_false hk1',decide_eq_false hk0];rfl
      have HB9:=HB6X;clear hk0 hk1' HK6;have HN:Hid (namesTo (ss.drop (k+1)) (ws.drop (k+1))=nOK):=hid (by rw[← HT.out,HAT.out,HBN];rfl);go_wp2;go_roundw
      case rel=>exact⟨k+1,HLT.out,(by first | rfl | (rw[hwk];rfl)),HB9,HN⟩
      case measure=>(try rw[hwk]);exact meas_step5b HLT.out
  ·have hek:k=ss.length:=by omega
   have HNO:Hid (nOK=true):=hid (by rw[← HT.out,hek,List.drop_length];exact namesTo_end _);have dk:decide ((k:Int) < ss.length)=false:=decide_eq_false (by omega);have x2:=(HK0.out.below HBq.out (by have:=HZ.out;omega)).cell_ 2 _ rfl;have HK0r:=hid (HK0.out.below HBq.out (by have:=HZ.out;omega));have HK1r:=hid (HK1.out.below HBq.out (by have:=HZ.out;omega));have HK2r:=hid (HK2.out.below HBq.out (by have:=HZ.out;omega));have HZr:Hid (w.heap.size+3≤wr.heap.size):=hid (by have:=HZ.out;have:=HBq.out.size;omega);have hnlt:¬ k < ss.length:=hlt;clear hek hlt HT HBq HK0 HK1 HK2 HNK;obtain⟨wa,hwa⟩:∃ W,W=wr:=⟨_,rfl⟩
   rw[← hwa] at x2 HB HK0r HK1r HK2r HZr ⊢;clear hwa;go_upto_region 9 with fail
   go_wp2;clear x2;go_loopw [61] (fun iv wr=>∃ (k:Nat) (cc:Cmd),k≤ss.length∧iv=.int .i64 k∧Hid (Below (w.heap.size+2) wa wr)∧Hid (Blk wr (w.heap.size+2) 34 (cmdB cc (.slice none 0 0)))∧Hid (cc.cells=[]∧fillTo (ss.drop k) (ws.drop k) cc=fil)) (fun iv _=>ss.length - (intOf iv).toNat)
   case atStart=>exact⟨0,_,Nat.zero_le _,rfl,hid (Below.refl _ _),HK2r,hid ⟨rfl,HFIL.out.symm⟩⟩
   case round=>
    have HBa:=HB;clear HB;obtain⟨k,cc,hk,rfl,HBq,HKC,HT⟩:=hrel;have hwk:wrap64 ((k:Int)+1)=(k:Int)+1:=by have:=HS6.out;unfold wrap64;omega
    have hwk2:IntKind.i64.wrap ((k:Int)+1)=(k:Int)+1:=IntWalk.i64_in _ (by have:=HS6.out;omega);have HB:=hid (HBa.out.trans (HBq.out.mono (Nat.le_add_right w.heap.size 2)));by_cases hlt:k < ss.length
    ·obtain⟨sb,so,sc',e,-,q0,q1,q2,q3,q4⟩:=(HSL.out.ext HB.out).at_ hlt;injection e with e1 e2 e3
     subst e1 e3;have hkb:k+1 < bs.length:=by have:=HL.out;omega
     obtain⟨b',o',e',-,cw⟩:=(HA.out.ext HB.out).at_ hkb;injection e' with e'
     injection e' with e1 e2
     subst e1 e2;have hw9:k < (wdL bs).tail.length:=by unfold wdL;rw[List.length_tail,List.length_map];omega
     have hwe:(wdL bs).tail[k]=bs[k+1].data.toList:=wdL_tail hkb hw9;have hws3:k < ws.length:=by rw[HWS.out];exact hw9
     have hat:=fillTo_at (ss:=ss) (ws:=ws) hlt hws3 cc;have hwe3:ws[k]=(wdL bs).tail[k]:=by have:=HWS.out;subst this;rfl
     rw[hwe3] at hat;clear hwe3;rw[hwe] at hat;have hy31:=HL31.out _ (List.getElem_mem hkb);have hfo:=HFLD.out ss[k] (List.getElem_mem hlt);obtain⟨s0,hs0⟩:∃ s,s=ss[k]:=⟨_,rfl⟩
     obtain⟨y,hy⟩:∃ y,y=bs[k+1]:=⟨_,rfl⟩
     rw[← hs0] at q0 q1 q2 q3 q4 hat hfo;rw[← hy] at cw hat hy31;have hf:=fldV_or s0.fld;obtain⟨fv,hfv⟩:∃ fv,fv=fldV s0.fld:=⟨_,rfl⟩
     rw[← hfv] at q2 hf;have HAT:=hid hat;have HLT:=hid hlt;have HY:=hid hy31;have HFO:=hid hfo;have HFV:=hid hfv;have hk1:((k:Int)+1).toNat=k+1:=by omega
     have hk2:(k:Int)+1 < (bs.length:Int):=by omega
     clear hs0 hy hfv hat hw9 hwe hy31 hfo hkb;rcases hf with hf | ⟨fn,hf⟩
     ·subst hf;obtain⟨w6,hw6⟩:∃ W,W=wr.alloc (.cells #[.int .i64 (s0.k:Int),.string ⟨s0.text.toArray⟩,.nilFunc,.int .i64 s0.lo,.int .i64 s0.hi] 60):=⟨_,rfl⟩
      obtain⟨p6,hp6⟩:∃ p,p=wr.heap.size:=⟨_,rfl⟩
      have hk6:Blk w6 p6 60 #[.int .i64 (s0.k:Int),.string ⟨s0.text.toArray⟩,.nilFunc,.int .i64 s0.lo,.int .i64 s0.hi]:=by rw[hw6,hp6];exact Blk.new _ _ _
      have hb6x:Below wr.heap.size wr w6:=by rw[hw6];exact below_new _ _
      have cw6:=hb6x.cell (p:=⟨b,o+(k+1),none⟩) (World.block_lt_of_cell? _ _ cw);rw[cw] at cw6;have HB6:=hid (HB.out.trans (hb6x.mono HB.out.size));have HB6X:=hid (HBq.out.trans (hb6x.mono (by have:=HKC.out.lt;omega)));have HKC6:=hid (HKC.out.below hb6x HKC.out.lt);have y0:=hk6.cell_ 0 _ rfl;have HK6:=hid hk6;clear hk6 hb6x;go_upto_region 11 with fail
      rw[← hw6,← hp6];clear hw6 hp6 q0 q1 q2 q3 q4 cw;by_cases hk0:s0.k=1∨s0.k=2
      ·have HN:Hid (cc.cells=[]∧fillTo (ss.drop (k+1)) (ws.drop (k+1)) { cc with name:=y.data.toList } = fil):=hid ⟨HT.out.1,by rw[← HT.out.2,HAT.out,if_pos hk0]⟩;have HKN:Hid (Blk (w6.setCell ⟨w.heap.size+2,5,none⟩ (.string y)) (w.heap.size+2) 34 (cmdB { cc with name:=y.data.toList } (.slice none 0 0))):=hid (by
        have h:=HKC6.out.set_ 5 (.string y);unfold cmdB nmV at h ⊢;rw[ba_eta];exact h)
       have HBN:Hid (Below (w.heap.size+2) wa (w6.setCell ⟨w.heap.size+2,5,none⟩ (.string y))):=hid (HB6X.out.setCell (p:=⟨w.heap.size+2,5,none⟩) (Nat.le_refl _) _);have fz:=HKC6.out.frozen 5;have cz:=HKC6.out.cell_ 5 _ rfl;rcases hk0 with hk0 | hk0
       ·have e1:((s0.k:Int) == 1)=true:=by rw[hk0];rfl
        clear hk0;go_wp2;go_roundw
        case rel=>exact⟨k+1,_,HLT.out,(by first | rfl | (rw[hwk];rfl)),HBN,HKN,HN⟩
        case measure=>(try rw[hwk]);exact meas_step5b HLT.out
       ·have e1:((s0.k:Int) == 1)=false:=by rw[hk0];rfl
        have e2:((s0.k:Int) == 2)=true:=by rw[hk0];rfl
        clear hk0;go_wp2;go_roundw
        case rel=>exact⟨k+1,_,HLT.out,(by first | rfl | (rw[hwk];rfl)),HBN,HKN,HN⟩
        case measure=>(try rw[hwk]);exact meas_step5b HLT.out
      ·have e1:((s0.k:Int) == 1)=false:=beq_false_of_ne (by omega);have e2:((s0.k:Int) == 2)=false:=beq_false_of_ne (by omega);by_cases hk4:s0.k=4
       ·have e4:((s0.k:Int) == 4)=true:=by rw[hk4];rfl
        exfalso;have h:=HFV.out;rcases HFO.out hk4 with h2 | h2 | h2 | h2 | h2 | h2 | h2 <;> (rw[h2] at h;cases h)
       ·have e4:((s0.k:Int) == 4)=false:=beq_false_of_ne (by omega);have HN:Hid (cc.cells=[]∧fillTo (ss.drop (k+1)) (ws.drop (k+1)) cc=fil):=hid ⟨HT.out.1,by rw[← HT.out.2,HAT.out,if_neg hk0,if_neg hk4]⟩;have HKN:=HKC6;clear hk0 hk4;go_wp2;go_roundw
        case rel=>exact⟨k+1,_,HLT.out,(by first | rfl | (rw[hwk];rfl)),HB6X,HKN,HN⟩
        case measure=>(try rw[hwk]);exact meas_step5b HLT.out
     ·subst hf;obtain⟨w6,hw6⟩:∃ W,W=wr.alloc (.cells #[.int .i64 (s0.k:Int),.string ⟨s0.text.toArray⟩,.func fn #[] #[],.int .i64 s0.lo,.int .i64 s0.hi] 60):=⟨_,rfl⟩
      obtain⟨p6,hp6⟩:∃ p,p=wr.heap.size:=⟨_,rfl⟩
      have hk6:Blk w6 p6 60 #[.int .i64 (s0.k:Int),.string ⟨s0.text.toArray⟩,.func fn #[] #[],.int .i64 s0.lo,.int .i64 s0.hi]:=by rw[hw6,hp6];exact Blk.new _ _ _
      have hb6x:Below wr.heap.size wr w6:=by rw[hw6];exact below_new _ _
      have cw6:=hb6x.cell (p:=⟨b,o+(k+1),none⟩) (World.block_lt_of_cell? _ _ cw);rw[cw] at cw6;have HB6:=hid (HB.out.trans (hb6x.mono HB.out.size));have HB6X:=hid (HBq.out.trans (hb6x.mono (by have:=HKC.out.lt;omega)));have HKC6:=hid (HKC.out.below hb6x HKC.out.lt);have y0:=hk6.cell_ 0 _ rfl;have HK6:=hid hk6;clear hk6 hb6x;go_upto_region 11 with fail
      rw[← hw6,← hp6];clear hw6 hp6 q0 q1 q2 q3 q4 cw;by_cases hk0:s0.k=1∨s0.k=2
      ·have HN:Hid (cc.cells=[]∧fillTo (ss.drop (k+1)) (ws.drop (k+1)) { cc with name:=y.data.toList } = fil):=hid ⟨HT.out.1,by rw[← HT.out.2,HAT.out,if_pos hk0]⟩;have HKN:Hid (Blk (w6.setCell ⟨w.heap.size+2,5,none⟩ (.string y)) (w.heap.size+2) 34 (cmdB { cc with name:=y.data.toList } (.slice none 0 0))):=hid (by
        have h:=HKC6.out.set_ 5 (.string y);unfold cmdB nmV at h ⊢;rw[ba_eta];exact h)
       have HBN:Hid (Below (w.heap.size+2) wa (w6.setCell ⟨w.heap.size+2,5,none⟩ (.string y))):=hid (HB6X.out.setCell (p:=⟨w.heap.size+2,5,none⟩) (Nat.le_refl _) _);have fz:=HKC6.out.frozen 5;have cz:=HKC6.out.cell_ 5 _ rfl;rcases hk0 with hk0 | hk0
       ·have e1:((s0.k:Int) == 1)=true:=by rw[hk0];rfl
        clear hk0;go_wp2;go_roundw
        case rel=>exact⟨k+1,_,HLT.out,(by first | rfl | (rw[hwk];rfl)),HBN,HKN,HN⟩
        case measure=>(try rw[hwk]);exact meas_step5b HLT.out
       ·have e1:((s0.k:Int) == 1)=false:=by rw[hk0];rfl
        have e2:((s0.k:Int) == 2)=true:=by rw[hk0];rfl
        clear hk0;go_wp2;go_roundw
        case rel=>exact⟨k+1,_,HLT.out,(by first | rfl | (rw[hwk];rfl)),HBN,HKN,HN⟩
        case measure=>(try rw[hwk]);exact meas_step5b HLT.out
      ·have e1:((s0.k:Int) == 1)=false:=beq_false_of_ne (by omega);have e2:((s0.k:Int) == 2)=false:=beq_false_of_ne (by omega);by_cases hk4:s0.k=4
       ·have e4:((s0.k:Int) == 4)=true:=by rw[hk4];rfl
        have HVC:=hid (value_any y w6 (by have:=HY.out;omega));go_wp2_with (go_at_call 66;refine HVC.out.mono ?_;intro e w7 hx;obtain⟨rfl,hb7⟩:=hx;refine Hid.out ?_);refine hid ?_;have HB7:=hid (HB6X.out.trans (hb7.mono (by have:=HKC6.out.lt;omega)));have hk7:=HK6.out.below hb7 HK6.out.lt;have HKC7:=hid (HKC6.out.below hb7 HKC6.out.lt);have z2:=hk7.cell_ 2 _ rfl;have z3:=hk7.cell_ 3 _ rfl;have z4:=hk7.cell_ 4 _ rfl;obtain⟨vv,hvv⟩:∃ v,v=valW y.data.toList:=⟨_,rfl⟩
        rw[← hvv];have HAT2:Hid (fillTo (ss.drop k) (ws.drop k) cc=if vv.1 < s0.lo∨s0.hi < vv.1 then none else fillTo (ss.drop (k+1)) (ws.drop (k+1)) (cc.set s0.fld vv.1)):=hid (by rw[HAT.out,if_neg hk0,if_pos hk4,hvv]);obtain⟨v1,ok⟩:=vv;dsimp only at HAT2;clear hvv hb7 hk7 HKC6 HVC HK6 HB6X;go_upto_region 18 with fail
        by_cases hr1:v1 < s0.lo
        ·have d1:decide (v1 < s0.lo)=true:=decide_eq_true hr1;have HNF:Hid (fil=none):=hid (by rw[← HT.out.2,HAT2.out,if_pos (.inl hr1)]);have k1:=HK1r.out.below HB7.out (by omega);have hbw:=HBa.out.trans (HB7.out.mono (by omega));have HN:Hid (r=(cmd0,5)):=hid (by rw[HR.out,if_neg (by rw[HNO.out];simp),HNF.out]);have r0:=k1.cell_ 0 _ rfl;have g0:=k1.frozen 0;have r1:=k1.cell_ 1 _ rfl;have g1:=k1.frozen 1;have r2:=k1.cell_ 2 _ rfl;have g2:=k1.frozen 2;have r3:=k1.cell_ 3 _ rfl;have g3:=k1.frozen 3;have r4:=k1.cell_ 4 _ rfl;have g4:=k1.frozen 4;have r5:=k1.cell_ 5 _ rfl;have g5:=k1.frozen 5;have r6:=k1.cell_ 6 _ rfl;have g6:=k1.frozen 6;have r7:=k1.cell_ 7 _ rfl;have g7:=k1.frozen 7;have r8:=k1.cell_ 8 _ rfl;have g8:=k1.frozen 8;have r9:=k1.cell_ 9 _ rfl;have g9:=k1.frozen 9;have HQ1:=hid k1;have HQW:=hid hbw;clear k1 hbw;go_wp2;(try simp only[Exit.inBlock,Exit.then]);refine bodyPost_ret (results_ct56 Tryz.results28 _ _ (w.heap.size+1) 34 #[.int .i64 0,.int .i64 0,.int .i64 0,.int .i64 0,.int .i64 0,.string ⟨#[]⟩,.slice none 0 0,.int .i64 0,.int .i64 0,.int .i64 0] (0,0) _ rfl (blk_set10 HQ1.out (.int .i64 0) (.int .i64 0) (.int .i64 0) (.int .i64 0) (.int .i64 0) (.string ⟨#[]⟩) (.slice none 0 0) (.int .i64 0) (.int .i64 0) (.int .i64 0)) Tryz.underlying34 rfl Tryz.sizeCommand) rfl ?_;exact RetCm.bad HN.out (below_set10 HQW.out (by omega) (.int .i64 0) (.int .i64 0) (.int .i64 0) (.int .i64 0) (.int .i64 0) (.string ⟨#[]⟩) (.slice none 0 0) (.int .i64 0) (.int .i64 0) (.int .i64 0))
        ·have d1:decide (v1 < s0.lo)=false:=decide_eq_false hr1;by_cases hr2:s0.hi < v1
         ·have d2:decide (s0.hi < v1)=true:=decide_eq_true hr2;have HNF:Hid (fil=none):=hid (by rw[← HT.out.2,HAT2.out,if_pos (.inr hr2)]);have k1:=HK1r.out.below HB7.out (by omega);have hbw:=HBa.out.trans (HB7.out.mono (by omega));have HN:Hid (r=(cmd0,5)):=hid (by rw[HR.out,if_neg (by rw[HNO.out];simp),HNF.out]);have r0:=k1.cell_ 0 _ rfl;have g0:=k1.frozen 0;have r1:=k1.cell_ 1 _ rfl;have g1:=k1.frozen 1;have r2:=k1.cell_ 2 _ rfl;have g2:=k1.frozen 2;have r3:=k1.cell_ 3 _ rfl;have g3:=k1.frozen 3;have r4:=k1.cell_ 4 _ rfl;have g4:=k1.frozen 4;have r5:=k1.cell_ 5 _ rfl;have g5:=k1.frozen 5;have r6:=k1.cell_ 6 _ rfl;have g6:=k1.frozen 6;have r7:=k1.cell_ 7 _ rfl;have g7:=k1.frozen 7;have r8:=k1.cell_ 8 _ rfl;have g8:=k1.frozen 8;have r9:=k1.cell_ 9 _ rfl;have g9:=k1.frozen 9;have HQ1:=hid k1;have HQW:=hid hbw;clear k1 hbw;go_wp2;(try simp only[Exit.inBlock,Exit.then]);refine bodyPost_ret (results_ct56 Tryz.results28 _ _ (w.heap.size+1) 34 #[.int .i64 0,.int .i64 0,.int .i64 0,.int .i64 0,.int .i64 0,.string ⟨#[]⟩,.slice none 0 0,.int .i64 0,.int .i64 0,.int .i64 0] (0,0) _ rfl (blk_set10 HQ1.out (.int .i64 0) (.int .i64 0) (.int .i64 0) (.int .i64 0) (.int .i64 0) (.string ⟨#[]⟩) (.slice none 0 0) (.int .i64 0) (.int .i64 0) (.int .i64 0)) Tryz.underlying34 rfl Tryz.sizeCommand) rfl ?_;exact RetCm.bad HN.out (below_set10 HQW.out (by omega) (.int .i64 0) (.int .i64 0) (.int .i64 0) (.int .i64 0) (.int .i64 0) (.string ⟨#[]⟩) (.slice none 0 0) (.int .i64 0) (.int .i64 0) (.int .i64 0))
         ·have d2:decide (s0.hi < v1)=false:=decide_eq_false hr2;have HNS:Hid ((cc.set s0.fld v1).cells=[]∧fillTo (ss.drop (k+1)) (ws.drop (k+1)) (cc.set s0.fld v1)=fil):=hid ⟨by rw[set_cells0];exact HT.out.1,by rw[← HT.out.2,HAT2.out,if_neg (by rintro (h | h);exact hr1 h;exact hr2 h)]⟩;have hfo:=HFO.out hk4;clear hk0 hk4;rcases hfo with hff | hff | hff | hff | hff | hff | hff
          ·have hfe:fn=.func 56:=by
            have h:=HFV.out;rw[hff] at h;injection h
           subst hfe;rw[hff] at HNS;have fz:=HKC7.out.frozen 1;have cz:=HKC7.out.cell_ 1 _ rfl;have HN:=HNS;have HKN:Hid (Blk (w7.setCell ⟨w.heap.size+2,1,none⟩ (.int .i64 v1)) (w.heap.size+2) 34 (cmdB (cc.set 1 v1) (.slice none 0 0))):=hid (HKC7.out.set_ 1 (.int .i64 v1));have HBN:Hid (Below (w.heap.size+2) wa (w7.setCell ⟨w.heap.size+2,1,none⟩ (.int .i64 v1))):=hid (HB7.out.setCell (p:=⟨w.heap.size+2,1,none⟩) (Nat.le_refl _) _);clear HNS hff;go_wp2_with (go_at_call 56;refine (fld1_any _ _).mono ?_;rintro e w8 ⟨rfl,rfl⟩);go_wp2;go_roundw
           case rel=>exact⟨k+1,_,HLT.out,(by first | rfl | (rw[hwk];rfl)),HBN,HKN,HN⟩
           case measure=>(try rw[hwk]);exact meas_step5b HLT.out
          ·have hfe:fn=.func 57:=by
            have h:=HFV.out;rw[hff] at h;injection h
           subst hfe;rw[hff] at HNS;have fz:=HKC7.out.frozen 2;have cz:=HKC7.out.cell_ 2 _ rfl;have HN:=HNS;have HKN:Hid (Blk (w7.setCell ⟨w.heap.size+2,2,none⟩ (.int .i64 v1)) (w.heap.size+2) 34 (cmdB (cc.set 2 v1) (.slice none 0 0))):=hid (HKC7.out.set_ 2 (.int .i64 v1));have HBN:Hid (Below (w.heap.size+2) wa (w7.setCell ⟨w.heap.size+2,2,none⟩ (.int .i64 v1))):=hid (HB7.out.setCell (p:=⟨w.heap.size+2,2,none⟩) (Nat.le_refl _) _);clear HNS hff;go_wp2_with (go_at_call 57;refine (fld2_any _ _).mono ?_;rintro e w8 ⟨rfl,rfl⟩);go_wp2;go_roundw
           case rel=>exact⟨k+1,_,HLT.out,(by first | rfl | (rw[hwk];rfl)),HBN,HKN,HN⟩
           case measure=>(try rw[hwk]);exact meas_step5b HLT.out
          ·have hfe:fn=.func 62:=by
            have h:=HFV.out;rw[hff] at h;injection h
           subst hfe;rw[hff] at HNS;have fz:=HKC7.out.frozen 3;have cz:=HKC7.out.cell_ 3 _ rfl;have HN:=HNS;have HKN:Hid (Blk (w7.setCell ⟨w.heap.size+2,3,none⟩ (.int .i64 v1)) (w.heap.size+2) 34 (cmdB (cc.set 3 v1) (.slice none 0 0))):=hid (HKC7.out.set_ 3 (.int .i64 v1));have HBN:Hid (Below (w.heap.size+2) wa (w7.setCell ⟨w.heap.size+2,3,none⟩ (.int .i64 v1))):=hid (HB7.out.setCell (p:=⟨w.heap.size+2,3,none⟩) (Nat.le_refl _) _);clear HNS hff;go_wp2_with (go_at_call 62;refine (fld3_any _ _).mono ?_;rintro e w8 ⟨rfl,rfl⟩);go_wp2;go_roundw
           case rel=>exact⟨k+1,_,HLT.out,(by first | rfl | (rw[hwk];rfl)),HBN,HKN,HN⟩
           case measure=>(try rw[hwk]);exact meas_step5b HLT.out
          ·have hfe:fn=.func 63:=by
            have h:=HFV.out;rw[hff] at h;injection h
           subst hfe;rw[hff] at HNS;have fz:=HKC7.out.frozen 4;have cz:=HKC7.out.cell_ 4 _ rfl;have HN:=HNS;have HKN:Hid (Blk (w7.setCell ⟨w.heap.size+2,4,none⟩ (.int .i64 v1)) (w.heap.size+2) 34 (cmdB (cc.set 4 v1) (.slice none 0 0))):=hid (HKC7.out.set_ 4 (.int .i64 v1));have HBN:Hid (Below (w.heap.size+2) wa (w7.setCell ⟨w.heap.size+2,4,none⟩ (.int .i64 v1))):=hid (HB7.out.setCell (p:=⟨w.heap.size+2,4,none⟩) (Nat.le_refl _) _);clear HNS hff;go_wp2_with (go_at_call 63;refine (fld4_any _ _).mono ?_;rintro e w8 ⟨rfl,rfl⟩);go_wp2;go_roundw
           case rel=>exact⟨k+1,_,HLT.out,(by first | rfl | (rw[hwk];rfl)),HBN,HKN,HN⟩
           case measure=>(try rw[hwk]);exact meas_step5b HLT.out
          ·have hfe:fn=.func 58:=by
            have h:=HFV.out;rw[hff] at h;injection h
           subst hfe;rw[hff] at HNS;have fz:=HKC7.out.frozen 7;have cz:=HKC7.out.cell_ 7 _ rfl;have HN:=HNS;have HKN:Hid (Blk (w7.setCell ⟨w.heap.size+2,7,none⟩ (.int .i64 v1)) (w.heap.size+2) 34 (cmdB (cc.set 7 v1) (.slice none 0 0))):=hid (HKC7.out.set_ 7 (.int .i64 v1));have HBN:Hid (Below (w.heap.size+2) wa (w7.setCell ⟨w.heap.size+2,7,none⟩ (.int .i64 v1))):=hid (HB7.out.setCell (p:=⟨w.heap.size+2,7,none⟩) (Nat.le_refl _) _);clear HNS hff;go_wp2_with (go_at_call 58;refine (fld7_any _ _).mono ?_;rintro e w8 ⟨rfl,rfl⟩);go_wp2;go_roundw
           case rel=>exact⟨k+1,_,HLT.out,(by first | rfl | (rw[hwk];rfl)),HBN,HKN,HN⟩
           case measure=>(try rw[hwk]);exact meas_step5b HLT.out
          ·have hfe:fn=.func 59:=by
            have h:=HFV.out;rw[hff] at h;injection h
           subst hfe;rw[hff] at HNS;have fz:=HKC7.out.frozen 8;have cz:=HKC7.out.cell_ 8 _ rfl;have HN:=HNS;have HKN:Hid (Blk (w7.setCell ⟨w.heap.size+2,8,none⟩ (.int .i64 v1)) (w.heap.size+2) 34 (cmdB (cc.set 8 v1) (.slice none 0 0))):=hid (HKC7.out.set_ 8 (.int .i64 v1));have HBN:Hid (Below (w.heap.size+2) wa (w7.setCell ⟨w.heap.size+2,8,none⟩ (.int .i64 v1))):=hid (HB7.out.setCell (p:=⟨w.heap.size+2,8,none⟩) (Nat.le_refl _) _);clear HNS hff;go_wp2_with (go_at_call 59;refine (fld8_any _ _).mono ?_;rintro e w8 ⟨rfl,rfl⟩);go_wp2;go_roundw
           case rel=>exact⟨k+1,_,HLT.out,(by first | rfl | (rw[hwk];rfl)),HBN,HKN,HN⟩
           case measure=>(try rw[hwk]);exact meas_step5b HLT.out
          ·have hfe:fn=.func 60:=by
            have h:=HFV.out;rw[hff] at h;injection h
           subst hfe;rw[hff] at HNS;have fz:=HKC7.out.frozen 9;have cz:=HKC7.out.cell_ 9 _ rfl;have HN:=HNS;have HKN:Hid (Blk (w7.setCell ⟨w.heap.size+2,9,none⟩ (.int .i64 v1)) (w.heap.size+2) 34 (cmdB (cc.set 9 v1) (.slice none 0 0))):=hid (HKC7.out.set_ 9 (.int .i64 v1));have HBN:Hid (Below (w.heap.size+2) wa (w7.setCell ⟨w.heap.size+2,9,none⟩ (.int .i64 v1))):=hid (HB7.out.setCell (p:=⟨w.heap.size+2,9,none⟩) (Nat.le_refl _) _);clear HNS hff;go_wp2_with (go_at_call 60;refine (fld9_any _ _).mono ?_;rintro e w8 ⟨rfl,rfl⟩);go_wp2;go_roundw
           case rel=>exact⟨k+1,_,HLT.out,(by first | rfl | (rw[hwk];rfl)),HBN,HKN,HN⟩
           case measure=>(try rw[hwk]);exact meas_step5b HLT.out
       ·have e4:((s0.k:Int) == 4)=false:=beq_false_of_ne (by omega);have HN:Hid (cc.cells=[]∧fillTo (ss.drop (k+1)) (ws.drop (k+1)) cc=fil):=hid ⟨HT.out.1,by rw[← HT.out.2,HAT.out,if_neg hk0,if_neg hk4]⟩;have HKN:=HKC6;clear hk0 hk4;go_wp2;go_roundw
        case rel=>exact⟨k+1,_,HLT.out,(by first | rfl | (rw[hwk];rfl)),HB6X,HKN,HN⟩
        case measure=>(try rw[hwk]);exact meas_step5b HLT.out
    ·have hek:k=ss.length:=by omega
     have HFS:Hid (fil=some cc):=hid (by rw[← HT.out.2,hek,List.drop_length];exact fillTo_end _ _);have HRR:Hid (runsTo ss ws cc=r):=hid (by rw[HR.out,if_neg (by rw[HNO.out];simp),HFS.out]);have HC0:Hid (cc.cells=[]):=hid HT.out.1;have dk:decide ((k:Int) < ss.length)=false:=decide_eq_false (by omega);have HK0b:=hid (HK0r.out.below HBq.out (by omega));have HK1b:=hid (HK1r.out.below HBq.out (by omega));have x2:=HK0b.out.cell_ 2 _ rfl;have HZb:Hid (w.heap.size+3≤wr.heap.size):=hid (by have:=HKC.out.lt;omega);have hnlt:¬ k < ss.length:=hlt;clear hek hlt HT HBq HBa HK0r HK1r HK2r HFIL HFS HNO HR HZr;obtain⟨wb,hwb⟩:∃ W,W=wr:=⟨_,rfl⟩
     rw[← hwb] at x2 HB HK0b HK1b HKC HZb ⊢;clear hwb;go_upto_region 23 with fail
     go_wp2;clear x2;go_loopw [105] (fun iv wr=>∃ (k:Nat) (cc:Cmd) (A3:Option Addr) (k3:Nat),k≤ss.length∧iv=.int .i64 k∧Hid (Below (w.heap.size+2) wb wr)∧Hid (Blk wr (w.heap.size+2) 34 (cmdB cc (.slice A3 cc.cells.length k3)))∧Hid (Cls wr A3 cc.cells∧NewA (w.heap.size+3) A3)∧Hid (runsTo (ss.drop k) (ws.drop k) cc=r)) (fun iv _=>ss.length - (intOf iv).toNat)
     case atStart=>exact⟨0,cc,none,0,Nat.zero_le _,rfl,hid (Below.refl _ _),hid (by rw[HC0.out];exact HKC.out),hid ⟨by rw[HC0.out];exact Cls.nil,NewA.none_ _⟩,HRR⟩
     case round=>
      clear HKC HRR HC0 hk;have HBa:=HB;clear HB;obtain⟨k,cc,A3,k3,hk,rfl,HBq,HKC,HCL,HT⟩:=hrel;have hwk:wrap64 ((k:Int)+1)=(k:Int)+1:=by have:=HS6.out;unfold wrap64;omega
      have hwk2:IntKind.i64.wrap ((k:Int)+1)=(k:Int)+1:=IntWalk.i64_in _ (by have:=HS6.out;omega);have HB:=hid (HBa.out.trans (HBq.out.mono (Nat.le_add_right w.heap.size 2)));by_cases hlt:k < ss.length
      ·obtain⟨sb,so,sc',e,-,q0,q1,q2,q3,q4⟩:=(HSL.out.ext HB.out).at_ hlt;injection e with e1 e2 e3
       subst e1 e3;have hkb:k+1 < bs.length:=by have:=HL.out;omega
       obtain⟨b',o',e',-,cw⟩:=(HA.out.ext HB.out).at_ hkb;injection e' with e'
       injection e' with e1 e2
       subst e1 e2;have hw9:k < (wdL bs).tail.length:=by unfold wdL;rw[List.length_tail,List.length_map];omega
       have hwe:(wdL bs).tail[k]=bs[k+1].data.toList:=wdL_tail hkb hw9;have hws3:k < ws.length:=by rw[HWS.out];exact hw9
       have hat:=runsTo_at (ss:=ss) (ws:=ws) hlt hws3 cc;have hwe3:ws[k]=(wdL bs).tail[k]:=by have:=HWS.out;subst this;rfl
       rw[hwe3] at hat;clear hwe3;rw[hwe] at hat;have hy31:=HL31.out _ (List.getElem_mem hkb);have hfo:=HFLD.out ss[k] (List.getElem_mem hlt);obtain⟨s0,hs0⟩:∃ s,s=ss[k]:=⟨_,rfl⟩
       obtain⟨y,hy⟩:∃ y,y=bs[k+1]:=⟨_,rfl⟩
       rw[← hs0] at q0 q1 q2 q3 q4 hat hfo;rw[← hy] at cw hat hy31;have hf:=fldV_or s0.fld;obtain⟨fv,hfv⟩:∃ fv,fv=fldV s0.fld:=⟨_,rfl⟩
       rw[← hfv] at q2 hf;have HAT:=hid hat;have HLT:=hid hlt;have HY:=hid hy31;have HFO:=hid hfo;have HFV:=hid hfv;have hk1:((k:Int)+1).toNat=k+1:=by omega
       have hk2:(k:Int)+1 < (bs.length:Int):=by omega
       clear hs0 hy hfv hat hw9 hwe hy31 hfo hkb;rcases hf with hf | ⟨fn,hf⟩
       ·subst hf;obtain⟨w6,hw6⟩:∃ W,W=wr.alloc (.cells #[.int .i64 (s0.k:Int),.string ⟨s0.text.toArray⟩,.nilFunc,.int .i64 s0.lo,.int .i64 s0.hi] 60):=⟨_,rfl⟩
        obtain⟨p6,hp6⟩:∃ p,p=wr.heap.size:=⟨_,rfl⟩
        have hk6:Blk w6 p6 60 #[.int .i64 (s0.k:Int),.string ⟨s0.text.toArray⟩,.nilFunc,.int .i64 s0.lo,.int .i64 s0.hi]:=by rw[hw6,hp6];exact Blk.new _ _ _
        have hb6x:Below wr.heap.size wr w6:=by rw[hw6];exact below_new _ _
        have cw6:=hb6x.cell (p:=⟨b,o+(k+1),none⟩) (World.block_lt_of_cell? _ _ cw);rw[cw] at cw6;have HB6:=hid (HB.out.trans (hb6x.mono HB.out.size));have HB6X:=hid (HBq.out.trans (hb6x.mono (by have:=HKC.out.lt;omega)));have HKC6:=hid (HKC.out.below hb6x HKC.out.lt);have HCL6:=hid (And.intro (HCL.out.1.ext hb6x) HCL.out.2);have y0:=hk6.cell_ 0 _ rfl;have HK6:=hid hk6;clear hk6 hb6x;go_upto_region 25 with fail
        rw[← hw6,← hp6];clear hw6 hp6 q0 q1 q2 q3 q4 cw;by_cases hk3:s0.k=3
        ·have e3:((s0.k:Int) == 3)=true:=by rw[hk3];rfl
         have hat:=HAT.out;rw[if_pos hk3] at hat;have hsz:¬ 9223372036854775807 < 35+y.size:=by have:=HY.out;have h2:y.size=y.data.toList.length:=Array.length_toList.symm;omega
         have hpc:=parse_any (hdrW ++ y.data.toList) w6 (HG.out.ext HB6.out) (by have:=HY.out;rw[List.length_append];have h2:hdrW.length=35:=rfl;omega);obtain⟨r5,hr5⟩:∃ r,r=parseL (hdrW ++ y.data.toList):=⟨_,rfl⟩
         rw[← hr5,← app_ba] at hpc;have HPC:Hid (Calls Tryz.prog 67 #[.string (⟨#[120,32,61,32,49,48,52,56,53,55,55,44,32,121,32,61,32,49,48,52,56,53,55,55,44,32,114,117,108,101,32,61,32,82,10]⟩ ++ y)] w6 (RetParse r5 w6)):=hid hpc;have HAT3:Hid (r=if r5.2.2≠0 then (cmd0,r5.2.2) else runsTo (ss.drop (k+1)) (ws.drop (k+1)) { cc with cells:=homeC r5.1 }):=hid (by rw[← HT.out,hat,hr5];rfl);clear hk3 hat HAT hpc hr5 HT;obtain⟨cs,rl,er⟩:=r5;unfold RetParse at HPC;dsimp only at HPC HAT3;go_upto_region 26 with fail
         go_wp2_with (go_at_call 67;refine HPC.out.mono ?_;rintro e w7 ⟨A5,c5,rfl,hcl5,hb7,hn5⟩;refine Hid.out ?_);refine hid ?_;have HB7:=hid (HB6X.out.trans (hb7.mono (by have:=HKC6.out.lt;omega)));have HKC7:=hid (HKC6.out.below hb7 HKC6.out.lt);have HN5:Hid (NewA (w.heap.size+3) A5):=hid (hn5.mono (by have:=HKC6.out.lt;omega));have HCL5:=hid hcl5;clear hcl5 hb7 hn5 HPC HKC6 HB6X HK6 HCL6 hsz;by_cases her:er=0
         ·subst her;have HN:Hid (runsTo (ss.drop (k+1)) (ws.drop (k+1)) { cc with cells:=homeC cs } = r):=hid (by rw[HAT3.out,if_neg (by simp)]);have HHM:=hid (home_any A5 c5 cs w7 HCL5.out);clear HAT3;go_wp2_with (go_at_call 68;refine HHM.out.mono ?_;rintro e w8 ⟨A6,c6,rfl,hcl6,hA6,hb8⟩;refine Hid.out ?_);refine hid ?_;have HN6:Hid (NewA (w.heap.size+3) A6):=hid (by
           rcases hA6 with h | h
           ·rw[h];exact HN5.out
           ·exact h.mono (by have:=HKC7.out.lt;omega))
          have hk8:=HKC7.out.below hb8 HKC7.out.lt;have fz:=hk8.frozen 6;have cz:=hk8.cell_ 6 _ rfl;have HKN:Hid (Blk (w8.setCell ⟨w.heap.size+2,6,none⟩ (.slice A6 (homeC cs).length c6)) (w.heap.size+2) 34 (cmdB { cc with cells:=homeC cs } (.slice A6 (homeC cs).length c6))):=hid (hk8.set_ 6 (.slice A6 (homeC cs).length c6));have HBN:Hid (Below (w.heap.size+2) wb (w8.setCell ⟨w.heap.size+2,6,none⟩ (.slice A6 (homeC cs).length c6))):=hid ((HB7.out.trans (hb8.mono (by have:=HKC7.out.lt;omega))).setCell (p:=⟨w.heap.size+2,6,none⟩) (Nat.le_refl _) _);have HCLN:Hid (Cls (w8.setCell ⟨w.heap.size+2,6,none⟩ (.slice A6 (homeC cs).length c6)) A6 (homeC cs)∧NewA (w.heap.size+3) A6):=hid ⟨cls_set hcl6 (fun ad e=>by have:=HN6.out ad e;show ad.block≠w.heap.size+2;omega) _,HN6.out⟩;clear hcl6 hA6 hb8 hk8 HHM HN6 HN5 HCL5;go_wp2;go_roundw
          case rel=>exact⟨k+1,_,A6,c6,HLT.out,(by first | rfl | (rw[hwk];rfl)),HBN,HKN,HCLN,HN⟩
          case measure=>(try rw[hwk]);exact meas_step5b HLT.out
         ·have de:(er == 0)=false:=by simpa using her
          have de2:(er != 0)=true:=by simpa using her
          have HRE:Hid (r=(cmd0,er)):=hid (by rw[HAT3.out,if_pos her]);have k1:=HK1b.out.below HB7.out (by omega);have hbw:=HBa.out.trans (HB7.out.mono (by omega));clear her HAT3;have HN:Hid (r=(cmd0,er)):=hid (by exact HRE.out);have r0:=k1.cell_ 0 _ rfl;have g0:=k1.frozen 0;have r1:=k1.cell_ 1 _ rfl;have g1:=k1.frozen 1;have r2:=k1.cell_ 2 _ rfl;have g2:=k1.frozen 2;have r3:=k1.cell_ 3 _ rfl;have g3:=k1.frozen 3;have r4:=k1.cell_ 4 _ rfl;have g4:=k1.frozen 4;have r5:=k1.cell_ 5 _ rfl;have g5:=k1.frozen 5;have r6:=k1.cell_ 6 _ rfl;have g6:=k1.frozen 6;have r7:=k1.cell_ 7 _ rfl;have g7:=k1.frozen 7;have r8:=k1.cell_ 8 _ rfl;have g8:=k1.frozen 8;have r9:=k1.cell_ 9 _ rfl;have g9:=k1.frozen 9;have HQ1:=hid k1;have HQW:=hid hbw;clear k1 hbw;go_wp2;(try simp only[Exit.inBlock,Exit.then]);refine bodyPost_ret (results_ct56 Tryz.results28 _ _ (w.heap.size+1) 34 #[.int .i64 0,.int .i64 0,.int .i64 0,.int .i64 0,.int .i64 0,.string ⟨#[]⟩,.slice none 0 0,.int .i64 0,.int .i64 0,.int .i64 0] (0,0) _ rfl (blk_set10 HQ1.out (.int .i64 0) (.int .i64 0) (.int .i64 0) (.int .i64 0) (.int .i64 0) (.string ⟨#[]⟩) (.slice none 0 0) (.int .i64 0) (.int .i64 0) (.int .i64 0)) Tryz.underlying34 rfl Tryz.sizeCommand) rfl ?_;exact RetCm.bad HN.out (below_set10 HQW.out (by omega) (.int .i64 0) (.int .i64 0) (.int .i64 0) (.int .i64 0) (.int .i64 0) (.string ⟨#[]⟩) (.slice none 0 0) (.int .i64 0) (.int .i64 0) (.int .i64 0))
        ·have e3:((s0.k:Int) == 3)=false:=beq_false_of_ne (by omega);have HN:Hid (runsTo (ss.drop (k+1)) (ws.drop (k+1)) cc=r):=hid (by rw[← HT.out,HAT.out,if_neg hk3]);have HKN:=HKC6;clear hk3;go_wp2;go_roundw
         case rel=>exact⟨k+1,_,_,_,HLT.out,(by first | rfl | (rw[hwk];rfl)),HB6X,HKN,HCL6,HN⟩
         case measure=>(try rw[hwk]);exact meas_step5b HLT.out
       ·subst hf;obtain⟨w6,hw6⟩:∃ W,W=wr.alloc (.cells #[.int .i64 (s0.k:Int),.string ⟨s0.text.toArray⟩,.func fn #[] #[],.int .i64 s0.lo,.int .i64 s0.hi] 60):=⟨_,rfl⟩
        obtain⟨p6,hp6⟩:∃ p,p=wr.heap.size:=⟨_,rfl⟩
        have hk6:Blk w6 p6 60 #[.int .i64 (s0.k:Int),.string ⟨s0.text.toArray⟩,.func fn #[] #[],.int .i64 s0.lo,.int .i64 s0.hi]:=by rw[hw6,hp6];exact Blk.new _ _ _
        have hb6x:Below wr.heap.size wr w6:=by rw[hw6];exact below_new _ _
        have cw6:=hb6x.cell (p:=⟨b,o+(k+1),none⟩) (World.block_lt_of_cell? _ _ cw);rw[cw] at cw6;have HB6:=hid (HB.out.trans (hb6x.mono HB.out.size));have HB6X:=hid (HBq.out.trans (hb6x.mono (by have:=HKC.out.lt;omega)));have HKC6:=hid (HKC.out.below hb6x HKC.out.lt);have HCL6:=hid (And.intro (HCL.out.1.ext hb6x) HCL.out.2);have y0:=hk6.cell_ 0 _ rfl;have HK6:=hid hk6;clear hk6 hb6x;go_upto_region 25 with fail
        rw[← hw6,← hp6];clear hw6 hp6 q0 q1 q2 q3 q4 cw;by_cases hk3:s0.k=3
        ·have e3:((s0.k:Int) == 3)=true:=by rw[hk3];rfl
         have hat:=HAT.out;rw[if_pos hk3] at hat;have hsz:¬ 9223372036854775807 < 35+y.size:=by have:=HY.out;have h2:y.size=y.data.toList.length:=Array.length_toList.symm;omega
         have hpc:=parse_any (hdrW ++ y.data.toList) w6 (HG.out.ext HB6.out) (by have:=HY.out;rw[List.length_append];have h2:hdrW.length=35:=rfl;omega);obtain⟨r5,hr5⟩:∃ r,r=parseL (hdrW ++ y.data.toList):=⟨_,rfl⟩
         rw[← hr5,← app_ba] at hpc;have HPC:Hid (Calls Tryz.prog 67 #[.string (⟨#[120,32,61,32,49,48,52,56,53,55,55,44,32,121,32,61,32,49,48,52,56,53,55,55,44,32,114,117,108,101,32,61,32,82,10]⟩ ++ y)] w6 (RetParse r5 w6)):=hid hpc;have HAT3:Hid (r=if r5.2.2≠0 then (cmd0,r5.2.2) else runsTo (ss.drop (k+1)) (ws.drop (k+1)) { cc with cells:=homeC r5.1 }):=hid (by rw[← HT.out,hat,hr5];rfl);clear hk3 hat HAT hpc hr5 HT;obtain⟨cs,rl,er⟩:=r5;unfold RetParse at HPC;dsimp only at HPC HAT3;go_upto_region 26 with fail
         go_wp2_with (go_at_call 67;refine HPC.out.mono ?_;rintro e w7 ⟨A5,c5,rfl,hcl5,hb7,hn5⟩;refine Hid.out ?_);refine hid ?_;have HB7:=hid (HB6X.out.trans (hb7.mono (by have:=HKC6.out.lt;omega)));have HKC7:=hid (HKC6.out.below hb7 HKC6.out.lt);have HN5:Hid (NewA (w.heap.size+3) A5):=hid (hn5.mono (by have:=HKC6.out.lt;omega));have HCL5:=hid hcl5;clear hcl5 hb7 hn5 HPC HKC6 HB6X HK6 HCL6 hsz;by_cases her:er=0
         ·subst her;have HN:Hid (runsTo (ss.drop (k+1)) (ws.drop (k+1)) { cc with cells:=homeC cs } = r):=hid (by rw[HAT3.out,if_neg (by simp)]);have HHM:=hid (home_any A5 c5 cs w7 HCL5.out);clear HAT3;go_wp2_with (go_at_call 68;refine HHM.out.mono ?_;rintro e w8 ⟨A6,c6,rfl,hcl6,hA6,hb8⟩;refine Hid.out ?_);refine hid ?_;have HN6:Hid (NewA (w.heap.size+3) A6):=hid (by
           rcases hA6 with h | h
           ·rw[h];exact HN5.out
           ·exact h.mono (by have:=HKC7.out.lt;omega))
          have hk8:=HKC7.out.below hb8 HKC7.out.lt;have fz:=hk8.frozen 6;have cz:=hk8.cell_ 6 _ rfl;have HKN:Hid (Blk (w8.setCell ⟨w.heap.size+2,6,none⟩ (.slice A6 (homeC cs).length c6)) (w.heap.size+2) 34 (cmdB { cc with cells:=homeC cs } (.slice A6 (homeC cs).length c6))):=hid (hk8.set_ 6 (.slice A6 (homeC cs).length c6));have HBN:Hid (Below (w.heap.size+2) wb (w8.setCell ⟨w.heap.size+2,6,none⟩ (.slice A6 (homeC cs).length c6))):=hid ((HB7.out.trans (hb8.mono (by have:=HKC7.out.lt;omega))).setCell (p:=⟨w.heap.size+2,6,none⟩) (Nat.le_refl _) _);have HCLN:Hid (Cls (w8.setCell ⟨w.heap.size+2,6,none⟩ (.slice A6 (homeC cs).length c6)) A6 (homeC cs)∧NewA (w.heap.size+3) A6):=hid ⟨cls_set hcl6 (fun ad e=>by have:=HN6.out ad e;show ad.block≠w.heap.size+2;omega) _,HN6.out⟩;clear hcl6 hA6 hb8 hk8 HHM HN6 HN5 HCL5;go_wp2;go_roundw
          case rel=>exact⟨k+1,_,A6,c6,HLT.out,(by first | rfl | (rw[hwk];rfl)),HBN,HKN,HCLN,HN⟩
          case measure=>(try rw[hwk]);exact meas_step5b HLT.out
         ·have de:(er == 0)=false:=by simpa using her
          have de2:(er != 0)=true:=by simpa using her
          have HRE:Hid (r=(cmd0,er)):=hid (by rw[HAT3.out,if_pos her]);have k1:=HK1b.out.below HB7.out (by omega);have hbw:=HBa.out.trans (HB7.out.mono (by omega));clear her HAT3;have HN:Hid (r=(cmd0,er)):=hid (by exact HRE.out);have r0:=k1.cell_ 0 _ rfl;have g0:=k1.frozen 0;have r1:=k1.cell_ 1 _ rfl;have g1:=k1.frozen 1;have r2:=k1.cell_ 2 _ rfl;have g2:=k1.frozen 2;have r3:=k1.cell_ 3 _ rfl;have g3:=k1.frozen 3;have r4:=k1.cell_ 4 _ rfl;have g4:=k1.frozen 4;have r5:=k1.cell_ 5 _ rfl;have g5:=k1.frozen 5;have r6:=k1.cell_ 6 _ rfl;have g6:=k1.frozen 6;have r7:=k1.cell_ 7 _ rfl;have g7:=k1.frozen 7;have r8:=k1.cell_ 8 _ rfl;have g8:=k1.frozen 8;have r9:=k1.cell_ 9 _ rfl;have g9:=k1.frozen 9;have HQ1:=hid k1;have HQW:=hid hbw;clear k1 hbw;go_wp2;(try simp only[Exit.inBlock,Exit.then]);refine bodyPost_ret (results_ct56 Tryz.results28 _ _ (w.heap.size+1) 34 #[.int .i64 0,.int .i64 0,.int .i64 0,.int .i64 0,.int .i64 0,.string ⟨#[]⟩,.slice none 0 0,.int .i64 0,.int .i64 0,.int .i64 0] (0,0) _ rfl (blk_set10 HQ1.out (.int .i64 0) (.int .i64 0) (.int .i64 0) (.int .i64 0) (.int .i64 0) (.string ⟨#[]⟩) (.slice none 0 0) (.int .i64 0) (.int .i64 0) (.int .i64 0)) Tryz.underlying34 rfl Tryz.sizeCommand) rfl ?_;exact RetCm.bad HN.out (below_set10 HQW.out (by omega) (.int .i64 0) (.int .i64 0) (.int .i64 0) (.int .i64 0) (.int .i64 0) (.string ⟨#[]⟩) (.slice none 0 0) (.int .i64 0) (.int .i64 0) (.int .i64 0))
        ·have e3:((s0.k:Int) == 3)=false:=beq_false_of_ne (by omega);have HN:Hid (runsTo (ss.drop (k+1)) (ws.drop (k+1)) cc=r):=hid (by rw[← HT.out,HAT.out,if_neg hk3]);have HKN:=HKC6;clear hk3;go_wp2;go_roundw
         case rel=>exact⟨k+1,_,_,_,HLT.out,(by first | rfl | (rw[hwk];rfl)),HB6X,HKN,HCL6,HN⟩
         case measure=>(try rw[hwk]);exact meas_step5b HLT.out
      ·have hek:k=ss.length:=by omega
       have HRE:Hid (r=(cc,0)):=hid (by rw[← HT.out,hek,List.drop_length];exact runsTo_end _ _);have dk:decide ((k:Int) < ss.length)=false:=decide_eq_false (by omega);have hnlt2:¬ k < ss.length:=hlt;have k1:=HK1b.out.below HBq.out (by omega);have r0:=k1.cell_ 0 _ rfl;have g0:=k1.frozen 0;have x0:wr.cell? ⟨w.heap.size+2,0,none⟩=some (.int .i64 cc.kind):=HKC.out.cell_ 0 _ rfl;have r1:=k1.cell_ 1 _ rfl;have g1:=k1.frozen 1;have x1:wr.cell? ⟨w.heap.size+2,1,none⟩=some (.int .i64 cc.x):=HKC.out.cell_ 1 _ rfl;have r2:=k1.cell_ 2 _ rfl;have g2:=k1.frozen 2;have x2:wr.cell? ⟨w.heap.size+2,2,none⟩=some (.int .i64 cc.y):=HKC.out.cell_ 2 _ rfl;have r3:=k1.cell_ 3 _ rfl;have g3:=k1.frozen 3;have x3:wr.cell? ⟨w.heap.size+2,3,none⟩=some (.int .i64 cc.n):=HKC.out.cell_ 3 _ rfl;have r4:=k1.cell_ 4 _ rfl;have g4:=k1.frozen 4;have x4:wr.cell? ⟨w.heap.size+2,4,none⟩=some (.int .i64 cc.m):=HKC.out.cell_ 4 _ rfl;have r5:=k1.cell_ 5 _ rfl;have g5:=k1.frozen 5;have x5:wr.cell? ⟨w.heap.size+2,5,none⟩=some (.string (nmV cc)):=HKC.out.cell_ 5 _ rfl;have r6:=k1.cell_ 6 _ rfl;have g6:=k1.frozen 6;have x6:wr.cell? ⟨w.heap.size+2,6,none⟩=some (.slice A3 cc.cells.length k3):=HKC.out.cell_ 6 _ rfl;have r7:=k1.cell_ 7 _ rfl;have g7:=k1.frozen 7;have x7:wr.cell? ⟨w.heap.size+2,7,none⟩=some (.int .i64 cc.p):=HKC.out.cell_ 7 _ rfl;have r8:=k1.cell_ 8 _ rfl;have g8:=k1.frozen 8;have x8:wr.cell? ⟨w.heap.size+2,8,none⟩=some (.int .i64 cc.dx):=HKC.out.cell_ 8 _ rfl;have r9:=k1.cell_ 9 _ rfl;have g9:=k1.frozen 9;have x9:wr.cell? ⟨w.heap.size+2,9,none⟩=some (.int .i64 cc.dy):=HKC.out.cell_ 9 _ rfl;have HQ1:=hid k1;clear k1 hek HT;go_wp2
       trace_state
       (try simp only[Exit.inBlock,Exit.then]);refine bodyPost_ret (results_ct56 Tryz.results28 _ _ (w.heap.size+1) 34 #[.int .i64 cc.kind,.int .i64 cc.x,.int .i64 cc.y,.int .i64 cc.n,.int .i64 cc.m,.string (nmV cc),.slice A3 cc.cells.length k3,.int .i64 cc.p,.int .i64 cc.dx,.int .i64 cc.dy] (0,0) _ rfl (blk_set10 HQ1.out (.int .i64 cc.kind) (.int .i64 cc.x) (.int .i64 cc.y) (.int .i64 cc.n) (.int .i64 cc.m) (.string (nmV cc)) (.slice A3 cc.cells.length k3) (.int .i64 cc.p) (.int .i64 cc.dx) (.int .i64 cc.dy)) Tryz.underlying34 rfl Tryz.sizeCommand) rfl ?_;exact RetCm.good HRE.out (cls_set10 HCL.out.1 (fun ad e=>by have:=HCL.out.2 ad e;omega) (.int .i64 cc.kind) (.int .i64 cc.x) (.int .i64 cc.y) (.int .i64 cc.n) (.int .i64 cc.m) (.string (nmV cc)) (.slice A3 cc.cells.length k3) (.int .i64 cc.p) (.int .i64 cc.dx) (.int .i64 cc.dy)) (HCL.out.2.mono (by omega)) (below_set10 HB.out (by omega) (.int .i64 cc.kind) (.int .i64 cc.x) (.int .i64 cc.y) (.int .i64 cc.n) (.int .i64 cc.m) (.string (nmV cc)) (.slice A3 cc.cells.length k3) (.int .i64 cc.p) (.int .i64 cc.dx) (.int .i64 cc.dy))
end Go.Proofs.YtcfelnhmifkelaaGreatDoor
