/-
  texts Fit56 Rfm56 Rma56 Rmt56 Seq56 Itr56: parts of the proof; conditions stand with each theorem.
-/
import Derived.Test.YtcfelnhmifkelaaGreatDoorUG18
import Derived.Test.YtcfelnhmifkelaaGreatDoorUG15
import Derived.Test.YtcfelnhmifkelaaGreatDoorUG16
import Derived.Test.YtcfelnhmifkelaaGreatDoorUG0
import Derived.RangeFuncNested
import Derived.RangeFuncBox
import Derived.Test.YtcfelnhmifkelaaGreatDoorUG14
import Derived.RangeFuncLeaves
import Derived.TacticsInMore
import Derived.LoopIn
import Derived.LoopNIn
import Derived.OwnWalkIn
import Derived.Lib.Bytealg
import Derived.Lib.Walk
import Derived.Lib.Strings
import Derived.Lib.Slices
import Derived.Laws.Externs
namespace Go.Proofs.YtcfelnhmifkelaaGreatDoor
open Lib(hid)
open Go.RowKit
set_option maxRecDepth 100000
set_option linter.unusedVariables false
set_option linter.unusedSimpArgs false
def wdL (bs:List ByteArray):List (List UInt8):=bs.map fun b=>b.data.toList
theorem str_eq2 (a b:ByteArray):(a.toList == b.toList)=decide (a.data.toList=b.data.toList):=by
 rw[ByteArray.toList_eq,ByteArray.toList_eq];by_cases h:a.data.toList=b.data.toList
 ·rw[h,decide_eq_true rfl];simp
 ·rw[decide_eq_false h];simpa using h
def slotFit (s:Slot)(w:List UInt8):Bool:=!(decide (s.k=0) && decide (w≠s.text)) && !(decide (s.k=4) && !(valW w).2)
theorem fitsTo_at {ss:List Slot}{ws:List (List UInt8)} {k:Nat}(h1:k < ss.length)(h2:k < ws.length):fitsTo (ss.drop k) (ws.drop k)=(slotFit ss[k] ws[k] && fitsTo (ss.drop (k+1)) (ws.drop (k+1))):=by
 rw[List.drop_eq_getElem_cons h1,List.drop_eq_getElem_cons h2];rfl
theorem wdL_tail {bs:List ByteArray}{k:Nat}(h:k+1 < bs.length)(h2:k < (wdL bs).tail.length):(wdL bs).tail[k]=bs[k+1].data.toList:=by
 rw[List.getElem_tail];exact List.getElem_map _
theorem fldV_or (f:Nat):fldV f=.nilFunc∨∃ fn,fldV f=.func fn #[] #[]:=by
 unfold fldV
 repeat' split
 all_goals first | exact .inl rfl | exact .inr ⟨_,rfl⟩
set_option maxHeartbeats 16000000 in
theorem fits56_any (f:Form)(sv:Value)(A:Option Addr)(c:Nat)(bs:List ByteArray)(w:World)(hsl:SlA w sv f.slots)(hA:Sts w A bs)(hn:0 < bs.length)(hb6:bs.length≤1000000)(hl31:∀ b ∈ bs,b.data.toList.length≤2147483648) :
  Calls Tryz.prog 27 #[formV f sv,.slice A bs.length c] w fun e w'=>e=.returned (.bool (fitsP f (wdL bs)))∧Below w.heap.size w w':=by
 obtain⟨SA,sc,rfl⟩:=hsl.form;obtain⟨wd,kd,ss⟩:=f;dsimp only at hsl;obtain⟨b,o,rfl,-,hw0⟩:=hA.at_ hn;rw[Nat.add_zero] at hw0;have hs6:ss.length≤1000000:=by obtain⟨_,_,_,_,h⟩:=hsl;exact h
 obtain⟨r,hr⟩:∃ r,r=fitsP ⟨wd,kd,ss⟩ (wdL bs):=⟨_,rfl⟩
 rw[← hr];have HR:Hid (r=(decide (bs[0].data.toList=wd) && decide (bs.length=1+ss.length) && fitsTo ss (wdL bs).tail)):=hid (by
  rw[hr];unfold fitsP wdL;rw[List.length_map];cases bs with
  | nil=>simp at hn
  | cons x l=>rfl)
 have HSL:=hid hsl;have HA:=hid hA;have HL31:=hid hl31;unfold formV;dsimp only;obtain⟨w0,hw⟩:∃ W,W=w.alloc (.cells #[.string ⟨wd.toArray⟩,.int .i64 kd,.slice SA ss.length sc] 52):=⟨_,rfl⟩
 obtain⟨p0,hp⟩:∃ p,p=w.heap.size:=⟨_,rfl⟩
 have hk0:Blk w0 p0 52 #[.string ⟨wd.toArray⟩,.int .i64 kd,.slice SA ss.length sc]:=by rw[hw,hp];exact Blk.new _ _ _
 have hb0:Below w.heap.size w w0:=by rw[hw];exact below_new _ _
 have hw1:=hb0.cell (p:=⟨b,o,none⟩) (World.block_lt_of_cell? _ _ hw0);rw[hw0] at hw1;have x0:=hk0.cell_ 0 _ rfl;have x2:=hk0.cell_ 2 _ rfl;have HK0:=hid hk0;have HB0:=hid hb0;clear hsl hA hl31 hr hk0 hb0 hw0;obtain⟨z,hz⟩:∃ z,z=bs[0]:=⟨_,rfl⟩
 rw[← hz] at hw1 HR;have dz:=str_eq56 z wd;by_cases h1:z.data.toList=wd
 ·rw[decide_eq_true h1] at dz;by_cases h2:bs.length=1+ss.length
  ·have d2:((bs.length:Int) != 1+(ss.length:Int))=false:=by rw[bne_eq_false_iff_eq];omega
   have HRT:Hid (r=fitsTo ss (wdL bs).tail):=hid (by rw[HR.out,decide_eq_true h1,decide_eq_true h2];rfl);have H2:=hid h2;have hwx:wrap64 (1+(ss.length:Int))=1+(ss.length:Int):=by unfold wrap64;omega
   have hwx2:IntKind.i64.wrap (1+(ss.length:Int))=1+(ss.length:Int):=IntWalk.i64_in _ (by omega);clear h1 h2 hz;go_enter Tryz.func27,Tryz.ntmps27;go_upto_region 1 with fail
   rw[← hw,← hp];clear hw hp;go_quiet (fail)
   obtain⟨wq,hwq⟩:∃ wq,wq=w0.drewN nq:=⟨_,rfl⟩
   have HBQ:Hid (Below w.heap.size w wq):=hid (by rw[hwq];exact below_drewN HB0.out _);have x2q:wq.cell? ⟨p0,2,none⟩=some (.slice SA ss.length sc):=by rw[hwq];exact x2
   rw[← hwq];clear hwq x0 x2 dz d2 hw1 hwx hwx2;go_wp2;go_loopw [27] (fun iv wr=>∃ k:Nat,k≤ss.length∧iv=.int .i64 k∧Hid (Below w.heap.size w wr)∧Hid (r=fitsTo (ss.drop k) ((wdL bs).tail.drop k))) (fun iv _=>ss.length - (intOf iv).toNat)
   case atStart=>exact⟨0,Nat.zero_le _,rfl,HBQ,HRT⟩
   case round=>
    clear x2q HBQ HB0 HK0;obtain⟨k,hk,rfl,HB,HT⟩:=hrel;have hwk:wrap64 ((k:Int)+1)=(k:Int)+1:=by unfold wrap64;omega
    have hwk2:IntKind.i64.wrap ((k:Int)+1)=(k:Int)+1:=IntWalk.i64_in _ (by omega);by_cases hlt:k < ss.length
    ·obtain⟨sb,so,sc',e,-,q0,q1,q2,q3,q4⟩:=(HSL.out.ext HB.out).at_ hlt;injection e with e1 e2 e3
     subst e1 e3;have hkb:k+1 < bs.length:=by have:=H2.out;omega
     obtain⟨b',o',e',-,cw⟩:=(HA.out.ext HB.out).at_ hkb;injection e' with e'
     injection e' with e1 e2
     subst e1 e2;have hw9:k < (wdL bs).tail.length:=by unfold wdL;rw[List.length_tail,List.length_map];omega
     have hwe:(wdL bs).tail[k]=bs[k+1].data.toList:=wdL_tail hkb hw9;have hat:=fitsTo_at (ss:=ss) (ws:=(wdL bs).tail) hlt hw9;rw[hwe] at hat;have hy31:=HL31.out _ (List.getElem_mem hkb);obtain⟨s0,hs0⟩:∃ s,s=ss[k]:=⟨_,rfl⟩
     obtain⟨y,hy⟩:∃ y,y=bs[k+1]:=⟨_,rfl⟩
     rw[← hs0] at q0 q1 q2 q3 q4 hat;rw[← hy] at cw hat hy31;have hf:=fldV_or s0.fld;obtain⟨fv,hfv⟩:∃ fv,fv=fldV s0.fld:=⟨_,rfl⟩
     rw[← hfv] at q2 hf;have HAT:=hid hat;have HLT:=hid hlt;have HY:=hid hy31;have dy:=str_eq56 y s0.text;have hk1:((k:Int)+1).toNat=k+1:=by omega
     have hk2:(k:Int)+1 < (bs.length:Int):=by omega
     clear hs0 hy hfv hat hw9 hwe hy31;rcases hf with hf | ⟨fn,hf⟩
     ·subst hf;obtain⟨w6,hw6⟩:∃ W,W=wr.alloc (.cells #[.int .i64 (s0.k:Int),.string ⟨s0.text.toArray⟩,.nilFunc,.int .i64 s0.lo,.int .i64 s0.hi] 60):=⟨_,rfl⟩
      obtain⟨p6,hp6⟩:∃ p,p=wr.heap.size:=⟨_,rfl⟩
      have hk6:Blk w6 p6 60 #[.int .i64 (s0.k:Int),.string ⟨s0.text.toArray⟩,.nilFunc,.int .i64 s0.lo,.int .i64 s0.hi]:=by rw[hw6,hp6];exact Blk.new _ _ _
      have hb6x:Below wr.heap.size wr w6:=by rw[hw6];exact below_new _ _
      have cw6:=hb6x.cell (p:=⟨b,o+(k+1),none⟩) (World.block_lt_of_cell? _ _ cw);rw[cw] at cw6;have HB6:=hid (HB.out.trans (hb6x.mono HB.out.size));have HK6:=hid hk6;have HVC:=hid (value_any y w6 HY.out);clear hk6 hb6x;go_upto_region 6 with fail
      rw[← hw6,← hp6];clear hw6 hp6 q0 q1 q2 q3 q4 cw;go_wp2_with (go_at_call 66;refine HVC.out.mono ?_;intro e w7 hx;obtain⟨rfl,hb7⟩:=hx;refine Hid.out ?_);refine hid ?_;have HB7:=hid (HB6.out.trans (hb7.mono HB6.out.size));have hk7:=HK6.out.below hb7 HK6.out.lt;have y0:=hk7.cell_ 0 _ rfl;have y1:=hk7.cell_ 1 _ rfl;have cw7:=hb7.cell (p:=⟨b,o+(k+1),none⟩) (World.block_lt_of_cell? _ _ cw6);rw[cw6] at cw7;obtain⟨vv,hvv⟩:∃ v,v=valW y.data.toList:=⟨_,rfl⟩
      rw[← hvv];obtain⟨v1,ok⟩:=vv;have HVV:Hid ((valW y.data.toList).2=ok):=hid (by rw[← hvv]);clear hvv hb7 hk7 cw6 HVC HK6;go_upto_region 7 with fail
      by_cases hk0:s0.k=0
      ·have e0:((s0.k:Int) == 0)=true:=by rw[hk0];rfl
       have e4:((s0.k:Int) == 4)=false:=by rw[hk0];rfl
       by_cases hyt:y.data.toList=s0.text
       ·rw[decide_eq_true hyt] at dy;have HSF:slotFit s0 y.data.toList=true:=by unfold slotFit;rw[hk0,decide_eq_false (show ¬ y.data.toList≠s0.text from fun h=>h hyt)];rfl
        clear hk0 hyt;have HN:Hid (r=fitsTo (ss.drop (k+1)) ((wdL bs).tail.drop (k+1))):=hid (by rw[HT.out,HAT.out,HSF];rfl);clear HSF;go_quiet (fail)
        go_wp2;go_roundw
        case rel=>exact⟨k+1,HLT.out,(by first | rfl | (rw[hwk];rfl)),hid (below_drewN HB7.out _),HN⟩
        case measure=>(try rw[hwk]);exact meas_step5b HLT.out
       ·rw[decide_eq_false hyt] at dy;have HSF:slotFit s0 y.data.toList=false:=by unfold slotFit;rw[hk0,decide_eq_true (show y.data.toList≠s0.text from hyt)];rfl
        clear hk0 hyt;have HN:Hid (r=false):=hid (by rw[HT.out,HAT.out,HSF];rfl);clear HSF;go_quiet (fail)
        go_wp2;go_ret;exact⟨ret_b56 HN.out.symm,below_drewN HB7.out _⟩
      ·have e0:((s0.k:Int) == 0)=false:=beq_false_of_ne (by omega);by_cases hk4:s0.k=4
       ·have e4:((s0.k:Int) == 4)=true:=by rw[hk4];rfl
        cases ok with
        | true=>
         have HSF:slotFit s0 y.data.toList=true:=by unfold slotFit;rw[hk4,HVV.out];rfl
         clear hk0 hk4;have HN:Hid (r=fitsTo (ss.drop (k+1)) ((wdL bs).tail.drop (k+1))):=hid (by rw[HT.out,HAT.out,HSF];rfl);clear HSF;go_quiet (fail)
         go_wp2;go_roundw
         case rel=>exact⟨k+1,HLT.out,(by first | rfl | (rw[hwk];rfl)),hid (below_drewN HB7.out _),HN⟩
         case measure=>(try rw[hwk]);exact meas_step5b HLT.out
        | false=>
         have HSF:slotFit s0 y.data.toList=false:=by unfold slotFit;rw[hk4,HVV.out];rfl
         clear hk0 hk4;have HN:Hid (r=false):=hid (by rw[HT.out,HAT.out,HSF];rfl);clear HSF;go_quiet (fail)
         go_wp2;go_ret;exact⟨ret_b56 HN.out.symm,below_drewN HB7.out _⟩
       ·have e4:((s0.k:Int) == 4)=false:=beq_false_of_ne (by omega);have HSF:slotFit s0 y.data.toList=true:=by unfold slotFit;rw[decide_eq_false hk0,decide_eq_false hk4];rfl
        clear hk0 hk4;have HN:Hid (r=fitsTo (ss.drop (k+1)) ((wdL bs).tail.drop (k+1))):=hid (by rw[HT.out,HAT.out,HSF];rfl);clear HSF;go_quiet (fail)
        go_wp2;go_roundw
        case rel=>exact⟨k+1,HLT.out,(by first | rfl | (rw[hwk];rfl)),hid (below_drewN HB7.out _),HN⟩
        case measure=>(try rw[hwk]);exact meas_step5b HLT.out
     ·subst hf;obtain⟨w6,hw6⟩:∃ W,W=wr.alloc (.cells #[.int .i64 (s0.k:Int),.string ⟨s0.text.toArray⟩,.func fn #[] #[],.int .i64 s0.lo,.int .i64 s0.hi] 60):=⟨_,rfl⟩
      obtain⟨p6,hp6⟩:∃ p,p=wr.heap.size:=⟨_,rfl⟩
      have hk6:Blk w6 p6 60 #[.int .i64 (s0.k:Int),.string ⟨s0.text.toArray⟩,.func fn #[] #[],.int .i64 s0.lo,.int .i64 s0.hi]:=by rw[hw6,hp6];exact Blk.new _ _ _
      have hb6x:Below wr.heap.size wr w6:=by rw[hw6];exact below_new _ _
      have cw6:=hb6x.cell (p:=⟨b,o+(k+1),none⟩) (World.block_lt_of_cell? _ _ cw);rw[cw] at cw6;have HB6:=hid (HB.out.trans (hb6x.mono HB.out.size));have HK6:=hid hk6;have HVC:=hid (value_any y w6 HY.out);clear hk6 hb6x;go_upto_region 6 with fail
      rw[← hw6,← hp6];clear hw6 hp6 q0 q1 q2 q3 q4 cw;go_wp2_with (go_at_call 66;refine HVC.out.mono ?_;intro e w7 hx;obtain⟨rfl,hb7⟩:=hx;refine Hid.out ?_);refine hid ?_;have HB7:=hid (HB6.out.trans (hb7.mono HB6.out.size));have hk7:=HK6.out.below hb7 HK6.out.lt;have y0:=hk7.cell_ 0 _ rfl;have y1:=hk7.cell_ 1 _ rfl;have cw7:=hb7.cell (p:=⟨b,o+(k+1),none⟩) (World.block_lt_of_cell? _ _ cw6);rw[cw6] at cw7;obtain⟨vv,hvv⟩:∃ v,v=valW y.data.toList:=⟨_,rfl⟩
      rw[← hvv];obtain⟨v1,ok⟩:=vv;have HVV:Hid ((valW y.data.toList).2=ok):=hid (by rw[← hvv]);clear hvv hb7 hk7 cw6 HVC HK6;go_upto_region 7 with fail
      by_cases hk0:s0.k=0
      ·have e0:((s0.k:Int) == 0)=true:=by rw[hk0];rfl
       have e4:((s0.k:Int) == 4)=false:=by rw[hk0];rfl
       by_cases hyt:y.data.toList=s0.text
       ·rw[decide_eq_true hyt] at dy;have HSF:slotFit s0 y.data.toList=true:=by unfold slotFit;rw[hk0,decide_eq_false (show ¬ y.data.toList≠s0.text from fun h=>h hyt)];rfl
        clear hk0 hyt;have HN:Hid (r=fitsTo (ss.drop (k+1)) ((wdL bs).tail.drop (k+1))):=hid (by rw[HT.out,HAT.out,HSF];rfl);clear HSF;go_quiet (fail)
        go_wp2;go_roundw
        case rel=>exact⟨k+1,HLT.out,(by first | rfl | (rw[hwk];rfl)),hid (below_drewN HB7.out _),HN⟩
        case measure=>(try rw[hwk]);exact meas_step5b HLT.out
       ·rw[decide_eq_false hyt] at dy;have HSF:slotFit s0 y.data.toList=false:=by unfold slotFit;rw[hk0,decide_eq_true (show y.data.toList≠s0.text from hyt)];rfl
        clear hk0 hyt;have HN:Hid (r=false):=hid (by rw[HT.out,HAT.out,HSF];rfl);clear HSF;go_quiet (fail)
        go_wp2;go_ret;exact⟨ret_b56 HN.out.symm,below_drewN HB7.out _⟩
      ·have e0:((s0.k:Int) == 0)=false:=beq_false_of_ne (by omega);by_cases hk4:s0.k=4
       ·have e4:((s0.k:Int) == 4)=true:=by rw[hk4];rfl
        cases ok with
        | true=>
         have HSF:slotFit s0 y.data.toList=true:=by unfold slotFit;rw[hk4,HVV.out];rfl
         clear hk0 hk4;have HN:Hid (r=fitsTo (ss.drop (k+1)) ((wdL bs).tail.drop (k+1))):=hid (by rw[HT.out,HAT.out,HSF];rfl);clear HSF;go_quiet (fail)
         go_wp2;go_roundw
         case rel=>exact⟨k+1,HLT.out,(by first | rfl | (rw[hwk];rfl)),hid (below_drewN HB7.out _),HN⟩
         case measure=>(try rw[hwk]);exact meas_step5b HLT.out
        | false=>
         have HSF:slotFit s0 y.data.toList=false:=by unfold slotFit;rw[hk4,HVV.out];rfl
         clear hk0 hk4;have HN:Hid (r=false):=hid (by rw[HT.out,HAT.out,HSF];rfl);clear HSF;go_quiet (fail)
         go_wp2;go_ret;exact⟨ret_b56 HN.out.symm,below_drewN HB7.out _⟩
       ·have e4:((s0.k:Int) == 4)=false:=beq_false_of_ne (by omega);have HSF:slotFit s0 y.data.toList=true:=by unfold slotFit;rw[decide_eq_false hk0,decide_eq_false hk4];rfl
        clear hk0 hk4;have HN:Hid (r=fitsTo (ss.drop (k+1)) ((wdL bs).tail.drop (k+1))):=hid (by rw[HT.out,HAT.out,HSF];rfl);clear HSF;go_quiet (fail)
        go_wp2;go_roundw
        case rel=>exact⟨k+1,HLT.out,(by first | rfl | (rw[hwk];rfl)),hid (below_drewN HB7.out _),HN⟩
        case measure=>(try rw[hwk]);exact meas_step5b HLT.out
    ·obtain rfl:k=ss.length:=by omega
     have HN:Hid (r=true):=hid (by rw[HT.out,List.drop_length];rfl);go_wp2;go_ret;exact⟨ret_b56 HN.out.symm,HB.out⟩
  ·have d2:((bs.length:Int) != 1+(ss.length:Int))=true:=by rw[bne_iff_ne];omega
   have HN:Hid (r=false):=hid (by rw[HR.out,decide_eq_false h2];simp);have hwx:wrap64 (1+(ss.length:Int))=1+(ss.length:Int):=by unfold wrap64;omega
   have hwx2:IntKind.i64.wrap (1+(ss.length:Int))=1+(ss.length:Int):=IntWalk.i64_in _ (by omega);clear h1 h2 hz;go_enter Tryz.func27,Tryz.ntmps27;go_upto_region 1 with fail
   rw[← hw,← hp];clear hw hp;go_quiet (fail)
   go_wp2;go_ret;exact⟨ret_b56 HN.out.symm,below_drewN HB0.out _⟩
 ·rw[decide_eq_false h1] at dz;have HN:Hid (r=false):=hid (by rw[HR.out,decide_eq_false h1];rfl);clear h1 hz;go_enter Tryz.func27,Tryz.ntmps27;go_upto_region 1 with fail
  rw[← hw,← hp];clear hw hp;go_quiet (fail)
  go_wp2;go_ret;exact⟨ret_b56 HN.out.symm,below_drewN HB0.out _⟩
def baL (l:List (List UInt8)):List ByteArray:=l.map fun b=>⟨b.toArray⟩
theorem sts_lit56 (w:World)(bs:List ByteArray)(hl:bs.length≤maxLen):Sts (w.alloc (.cells (bs.map Value.string).toArray 9)) (some ⟨w.heap.size,0,none⟩) bs:=by
 have h:=World.ownsRow_lit (base:=w.heap.size) (e:=9) (size:=1) w (bs.map Value.string).toArray bs.length (Nat.le_refl _) hl (by simp);have h2:OwnS 9 (w.alloc (.cells (bs.map Value.string).toArray 9)) w.heap.size (.slice (some ⟨w.heap.size,0,none⟩) bs.length bs.length) bs:=by unfold OwnS;simpa using h
 obtain⟨A,c,e,h3,-⟩:=h2.sts;injection e with e1 e2 e3
 subst e1;exact h3
def formR (k:Int):List (List UInt8):=
 if k=1 then [[114,117,108,101],[82]]
 else if k=2 then [[99,101,108,108,115],[78],[67]]
 else if k=3 then [[112,117,116],[78],[97,116],[88],[89],[116,117,114,110],[75]]
 else if k=4 then [[115,104,105,112],[78],[81],[68],[69]]
 else if k=5 then [[115,104,111,116],[78],[112,104,97,115,101],[80],[97,116],[88],[89],[116,117,114,110],[77]]
 else if k=6 then [[114,117,110],[71]]
 else if k=7 then [[101,120,112,101,99,116],[78],[97,116],[88],[89]]
 else if k=8 then [[99,108,101,97,114]]
 else if k=9 then [[115,97,118,101],[78]]
 else if k=10 then [[112,114,105,110,116]]
 else if k=11 then [[99,101,110,115,117,115]]
 else if k=12 then [[99,111,117,110,116]]
 else []
def slotR (w:List UInt8):Slot:=
 if w=[82] then ⟨1,[],0,0,0⟩ else if w=[78] then nameS else if w=[67] then ⟨3,[],0,0,0⟩ else if w=[88] then nmbS 1 (-1048576) 1048576 else if w=[89] then nmbS 2 (-1048576) 1048576
 else if w=[75] then nmbS 3 0 7 else if w=[77] then nmbS 4 0 7 else if w=[80] then nmbS 3 0 10000 else if w=[71] then nmbS 3 0 10000 else if w=[81] then nmbS 7 1 64 else if w=[68] then nmbS 8 (-1048576) 1048576 else if w=[69] then nmbS 9 (-1048576) 1048576
 else fixS w
theorem formsP_eq:formsP=([1,2,3,4,5,6,7,8,9,10,11,12]:List Int).map fun k=>(⟨(formR k).headD [],k,(formR k).tail.map slotR⟩:Form):=by rfl
theorem newA_at (w:World):NewA w.heap.size (some ⟨w.heap.size,0,none⟩):=fun ad e=>by
 injection e with e
 rw[← e];exact Nat.le_refl _
def RetFr (k:Int)(w:World)(e:Ending)(w':World):Prop:=∃ A c,e=.returned (.slice A (baL (formR k)).length c)∧Sts w' A (baL (formR k))∧NewA w.heap.size A∧Below w.heap.size w w'
theorem rform1 (w:World):Calls Tryz.prog 37 #[.int .i64 1] w (RetFr 1 w):=by
 go_enter Tryz.func37,Tryz.ntmps37;go_wp2;go_ret;exact⟨some ⟨w.heap.size,0,none⟩,2,rfl,sts_lit56 w (baL (formR 1)) (by decide),newA_at w,(Below.refl _ _).alloc (Nat.le_refl _) _⟩
theorem rform2 (w:World):Calls Tryz.prog 37 #[.int .i64 2] w (RetFr 2 w):=by
 go_enter Tryz.func37,Tryz.ntmps37;go_wp2;go_ret;exact⟨some ⟨w.heap.size,0,none⟩,3,rfl,sts_lit56 w (baL (formR 2)) (by decide),newA_at w,(Below.refl _ _).alloc (Nat.le_refl _) _⟩
theorem rform3 (w:World):Calls Tryz.prog 37 #[.int .i64 3] w (RetFr 3 w):=by
 go_enter Tryz.func37,Tryz.ntmps37;go_wp2;go_ret;exact⟨some ⟨w.heap.size,0,none⟩,7,rfl,sts_lit56 w (baL (formR 3)) (by decide),newA_at w,(Below.refl _ _).alloc (Nat.le_refl _) _⟩
theorem rform4 (w:World):Calls Tryz.prog 37 #[.int .i64 4] w (RetFr 4 w):=by
 go_enter Tryz.func37,Tryz.ntmps37;go_wp2;go_ret;exact⟨some ⟨w.heap.size,0,none⟩,5,rfl,sts_lit56 w (baL (formR 4)) (by decide),newA_at w,(Below.refl _ _).alloc (Nat.le_refl _) _⟩
theorem rform5 (w:World):Calls Tryz.prog 37 #[.int .i64 5] w (RetFr 5 w):=by
 go_enter Tryz.func37,Tryz.ntmps37;go_wp2;go_ret;exact⟨some ⟨w.heap.size,0,none⟩,9,rfl,sts_lit56 w (baL (formR 5)) (by decide),newA_at w,(Below.refl _ _).alloc (Nat.le_refl _) _⟩
theorem rform6 (w:World):Calls Tryz.prog 37 #[.int .i64 6] w (RetFr 6 w):=by
 go_enter Tryz.func37,Tryz.ntmps37;go_wp2;go_ret;exact⟨some ⟨w.heap.size,0,none⟩,2,rfl,sts_lit56 w (baL (formR 6)) (by decide),newA_at w,(Below.refl _ _).alloc (Nat.le_refl _) _⟩
theorem rform7 (w:World):Calls Tryz.prog 37 #[.int .i64 7] w (RetFr 7 w):=by
 go_enter Tryz.func37,Tryz.ntmps37;go_wp2;go_ret;exact⟨some ⟨w.heap.size,0,none⟩,5,rfl,sts_lit56 w (baL (formR 7)) (by decide),newA_at w,(Below.refl _ _).alloc (Nat.le_refl _) _⟩
theorem rform8 (w:World):Calls Tryz.prog 37 #[.int .i64 8] w (RetFr 8 w):=by
 go_enter Tryz.func37,Tryz.ntmps37;go_wp2;go_ret;exact⟨some ⟨w.heap.size,0,none⟩,1,rfl,sts_lit56 w (baL (formR 8)) (by decide),newA_at w,(Below.refl _ _).alloc (Nat.le_refl _) _⟩
theorem rform9 (w:World):Calls Tryz.prog 37 #[.int .i64 9] w (RetFr 9 w):=by
 go_enter Tryz.func37,Tryz.ntmps37;go_wp2;go_ret;exact⟨some ⟨w.heap.size,0,none⟩,2,rfl,sts_lit56 w (baL (formR 9)) (by decide),newA_at w,(Below.refl _ _).alloc (Nat.le_refl _) _⟩
theorem rform10 (w:World):Calls Tryz.prog 37 #[.int .i64 10] w (RetFr 10 w):=by
 go_enter Tryz.func37,Tryz.ntmps37;go_wp2;go_ret;exact⟨some ⟨w.heap.size,0,none⟩,1,rfl,sts_lit56 w (baL (formR 10)) (by decide),newA_at w,(Below.refl _ _).alloc (Nat.le_refl _) _⟩
theorem rform11 (w:World):Calls Tryz.prog 37 #[.int .i64 11] w (RetFr 11 w):=by
 go_enter Tryz.func37,Tryz.ntmps37;go_wp2;go_ret;exact⟨some ⟨w.heap.size,0,none⟩,1,rfl,sts_lit56 w (baL (formR 11)) (by decide),newA_at w,(Below.refl _ _).alloc (Nat.le_refl _) _⟩
theorem rform12 (w:World):Calls Tryz.prog 37 #[.int .i64 12] w (RetFr 12 w):=by
 go_enter Tryz.func37,Tryz.ntmps37;go_wp2;go_ret;exact⟨some ⟨w.heap.size,0,none⟩,1,rfl,sts_lit56 w (baL (formR 12)) (by decide),newA_at w,(Below.refl _ _).alloc (Nat.le_refl _) _⟩
theorem rform_any (k:Int)(w:World):Calls Tryz.prog 37 #[.int .i64 k] w (RetFr k w):=by
 by_cases h1:k=1
 ·subst h1;exact rform1 w
 by_cases h2:k=2
 ·subst h2;exact rform2 w
 by_cases h3:k=3
 ·subst h3;exact rform3 w
 by_cases h4:k=4
 ·subst h4;exact rform4 w
 by_cases h5:k=5
 ·subst h5;exact rform5 w
 by_cases h6:k=6
 ·subst h6;exact rform6 w
 by_cases h7:k=7
 ·subst h7;exact rform7 w
 by_cases h8:k=8
 ·subst h8;exact rform8 w
 by_cases h9:k=9
 ·subst h9;exact rform9 w
 by_cases h10:k=10
 ·subst h10;exact rform10 w
 by_cases h11:k=11
 ·subst h11;exact rform11 w
 by_cases h12:k=12
 ·subst h12;exact rform12 w
 have hf:formR k=[]:=by unfold formR;rw[if_neg h1,if_neg h2,if_neg h3,if_neg h4,if_neg h5,if_neg h6,if_neg h7,if_neg h8,if_neg h9,if_neg h10,if_neg h11,if_neg h12]
 have HF:=hid hf;have q1:(k == 1)=false:=beq_false_of_ne h1;have q2:(k == 2)=false:=beq_false_of_ne h2;have q3:(k == 3)=false:=beq_false_of_ne h3;have q4:(k == 4)=false:=beq_false_of_ne h4;have q5:(k == 5)=false:=beq_false_of_ne h5;have q6:(k == 6)=false:=beq_false_of_ne h6;have q7:(k == 7)=false:=beq_false_of_ne h7;have q8:(k == 8)=false:=beq_false_of_ne h8;have q9:(k == 9)=false:=beq_false_of_ne h9;have q10:(k == 10)=false:=beq_false_of_ne h10;have q11:(k == 11)=false:=beq_false_of_ne h11;have q12:(k == 12)=false:=beq_false_of_ne h12;clear hf h1 h2 h3 h4 h5 h6 h7 h8 h9 h10 h11 h12;go_enter Tryz.func37,Tryz.ntmps37;go_wp2;go_ret;refine⟨none,0,?_,?_,NewA.none_ _,Below.refl _ _⟩
 ·rw[HF.out];rfl
 ·rw[HF.out];exact Sts.nil
def opB (l:List UInt8):Bool:=decide (65≤(l.headD 0).toNat) && decide ((l.headD 0).toNat≤90)
def nmcB (l:List UInt8):Bool:=opB l && decide (l≠[82]) && decide (l≠[78]) && decide (l≠[67])
theorem head_at {s:ByteArray}(h:0 < s.size):s.data.toList.headD 0=s[0]:=by
 obtain⟨⟨l⟩⟩:=s;cases l with
 | nil=>exact absurd h (by decide)
 | cons a r=>rfl
set_option maxHeartbeats 4000000 in
theorem operand_any (s:ByteArray)(w:World)(h0:0 < s.size):Calls Tryz.prog 86 #[.string s] w fun e w'=>e=.returned (.bool (opB s.data.toList))∧w=w':=by
 obtain⟨r,hr⟩:∃ r,r=opB s.data.toList:=⟨_,rfl⟩
 rw[← hr];obtain⟨c,hc⟩:∃ c:Int,c=(s[0]'h0).toNat:=⟨_,rfl⟩
 have hcc:((s[0]'h0).toNat:Int)=c:=hc.symm;have HR:Hid (r=(decide (65≤c) && decide (c≤90))):=hid (by
  rw[hr];unfold opB;rw[head_at h0,hc]
  congr 1 <;> exact decide_eq_decide.2 (by omega))
 clear hc hr;by_cases h1:65≤c
 ·have d1:decide (65≤c)=true:=decide_eq_true h1;obtain⟨b,hb⟩:∃ b,b=decide (c≤90):=⟨_,rfl⟩
  have d2:decide (c≤90)=b:=hb.symm;have HT:Hid (r=b):=hid (by rw[HR.out,d1,d2];rfl);clear hb h1;go_enter Tryz.func86,Tryz.ntmps86;go_wp2;go_ret;exact⟨ret_b56 HT.out.symm,rfl⟩
 ·have d1:decide (65≤c)=false:=decide_eq_false h1;have HT:Hid (r=false):=hid (by rw[HR.out,d1];rfl);clear h1;go_enter Tryz.func86,Tryz.ntmps86;go_wp2;go_ret;exact⟨ret_b56 HT.out.symm,rfl⟩
set_option maxHeartbeats 4000000 in
theorem numeric_any (s:ByteArray)(w:World)(h0:0 < s.size):Calls Tryz.prog 39 #[.string s] w fun e w'=>e=.returned (.bool (nmcB s.data.toList))∧w=w':=by
 obtain⟨r,hr⟩:∃ r,r=nmcB s.data.toList:=⟨_,rfl⟩
 obtain⟨ob,ho⟩:∃ b,b=opB s.data.toList:=⟨_,rfl⟩
 have hop:=operand_any s w h0;rw[← hr];rw[← ho] at hop;have dR:=str_eq56 s [82];have dN:=str_eq56 s [78];have dC:=str_eq56 s [67];have HR:Hid (r=(ob && decide (s.data.toList≠[82]) && decide (s.data.toList≠[78]) && decide (s.data.toList≠[67]))):=hid (by rw[hr,ho];rfl);have HOP:=hid hop;clear hop hr ho;cases ob with
 | false=>
  have HT:Hid (r=false):=hid (by rw[HR.out];rfl);go_enter Tryz.func39,Tryz.ntmps39;go_wp2_with (go_at_call 86;refine HOP.out.mono ?_;rintro e w1 ⟨rfl,rfl⟩;refine Hid.out ?_);refine hid ?_;clear HOP;go_wp2;go_ret;exact⟨ret_b56 HT.out.symm,rfl⟩
 | true=>
  by_cases h1:s.data.toList=[82]
  ·rw[decide_eq_true h1] at dR;have HT:Hid (r=false):=hid (by rw[HR.out,h1];rfl);clear h1 dN dC;go_enter Tryz.func39,Tryz.ntmps39;go_wp2_with (go_at_call 86;refine HOP.out.mono ?_;rintro e w1 ⟨rfl,rfl⟩;refine Hid.out ?_);refine hid ?_;clear HOP;go_wp2;go_ret;exact⟨ret_b56 HT.out.symm,rfl⟩
  ·rw[decide_eq_false h1] at dR;by_cases h2:s.data.toList=[78]
   ·rw[decide_eq_true h2] at dN;have HT:Hid (r=false):=hid (by rw[HR.out,h2];rfl);clear h1 h2 dC;go_enter Tryz.func39,Tryz.ntmps39;go_wp2_with (go_at_call 86;refine HOP.out.mono ?_;rintro e w1 ⟨rfl,rfl⟩;refine Hid.out ?_);refine hid ?_;clear HOP;go_wp2;go_ret;exact⟨ret_b56 HT.out.symm,rfl⟩
   ·rw[decide_eq_false h2] at dN;by_cases h3:s.data.toList=[67]
    ·rw[decide_eq_true h3] at dC;have HT:Hid (r=false):=hid (by rw[HR.out,h3];rfl);clear h1 h2 h3;go_enter Tryz.func39,Tryz.ntmps39;go_wp2_with (go_at_call 86;refine HOP.out.mono ?_;rintro e w1 ⟨rfl,rfl⟩;refine Hid.out ?_);refine hid ?_;clear HOP;go_wp2;go_ret;exact⟨ret_b56 HT.out.symm,rfl⟩
    ·rw[decide_eq_false h3] at dC;have HT:Hid (r=true):=hid (by rw[HR.out,decide_eq_true (show s.data.toList≠[82] from h1),decide_eq_true (show s.data.toList≠[78] from h2),decide_eq_true (show s.data.toList≠[67] from h3)];rfl);clear h1 h2 h3;go_enter Tryz.func39,Tryz.ntmps39;go_wp2_with (go_at_call 86;refine HOP.out.mono ?_;rintro e w1 ⟨rfl,rfl⟩;refine Hid.out ?_);refine hid ?_;clear HOP;go_wp2;go_ret;exact⟨ret_b56 HT.out.symm,rfl⟩
end Go.Proofs.YtcfelnhmifkelaaGreatDoor
namespace Go.Proofs.YtcfelnhmifkelaaGreatDoor
open Go.RowKit
set_option maxRecDepth 100000
set_option linter.unusedVariables false
set_option linter.unusedSimpArgs false
theorem wdL_at {bs:List ByteArray}{k:Nat}(h:k < bs.length)(h2:k < (wdL bs).length):(wdL bs)[k]=bs[k].data.toList:=List.getElem_map _
theorem wdL_len (bs:List ByteArray):(wdL bs).length=bs.length:=List.length_map _
def formK (k:Int):Form:=⟨(formR k).headD [],k,(formR k).tail.map slotR⟩
theorem formsK:formsP=([1,2,3,4,5,6,7,8,9,10,11,12]:List Int).map formK:=formsP_eq

theorem wide_call {n:Nat}{f:FuncId}{C:Prop}(h:C):Fence.wide.fn f∧(Fence.wide.depth.isSome=true→1≤n)∧C:=⟨trivial,(fun hd=>by cases hd),h⟩
theorem wide_round {n:Nat}{C:Prop}(h:C):(Fence.wide.depth.isSome=true→1≤n)∧C:=⟨(fun hd=>by cases hd),h⟩
def Held (lo hi:Nat)(w w':World):Prop:=∀ k,lo≤k→k < hi→w'.heap[k]?=w.heap[k]?
theorem Held.refl (lo hi:Nat)(w:World):Held lo hi w w:=fun _ _ _=>rfl
theorem Held.trans {lo hi:Nat}{u v w:World}(h:Held lo hi u v)(k:Held lo hi v w):Held lo hi u w:=fun i a b=>(k i a b).trans (h i a b)
theorem Held.putObj {lo hi l:Nat}{u w:World}(h:Held lo hi u w)(hl:hi≤l)(o:Obj):Held lo hi u (w.putObj l o):=fun i a b=>(World.putObj_heap_other (by omega)).trans (h i a b)
theorem Held.setCell {lo hi:Nat}{u w:World}(h:Held lo hi u w){p:Addr}(hp:p.block < lo∨hi≤p.block)(v:Value):Held lo hi u (w.setCell p v):=fun i a b=>(Below.heap_setCell w p v i (by omega)).trans (h i a b)
theorem Held.below {lo hi B:Nat}{u w w':World}(h:Held lo hi u w)(hb:Below B w w')(hB:hi≤B):Held lo hi u w':=fun i a b=>(hb.block i (by omega)).trans (h i a b)
def Spare (b:Nat)(J:List ByteArray→World→Prop):Prop:=∀ s A v,J s A→J s (A.setCell ⟨b,0,none⟩ v)
def SeqBox (P:Program)(g:Nat)(lb:Array Value)(b lo hi:Nat)(Ok:List ByteArray→ByteArray→Prop)(S:List ByteArray→Prop)(w:World):Prop:=
 ∀ (n l:Nat) (J Jx:List ByteArray→World→Prop) (W:World),Below w.heap.size w W→Spare b J→
  (∀ pre x W1,J pre W1→Ok pre x→YieldAt Fence.wide (n - 1) P l #[.string x] W1 fun e W'=>(e=.returned (.bool true)∧J (pre ++ [x]) W'∧Held lo hi W1 W')∨(e=.returned (.bool false)∧Jx (pre ++ [x]) W'))→
  J [] W→CallsIn Fence.wide n P g (#[.func (.yield l) #[] #[]] ++ lb) W fun e W'=>(∃ v,e=.returned v)∧((∃ xs,S xs∧J xs W')∨∃ pre rest,S (pre ++ rest)∧Jx pre W')
def RoundEnds (id:Nat)(lo hi:Nat)(I:List ByteArray→World→Prop)(Ix:List ByteArray→World→Prop)(xs:List ByteArray)(W:World):Exit→Act→World→Prop
 | .normal,_,W'=>KeepsOthers W W'∧Held lo hi W W'∧I xs W'
 | .exit k,_,W'=>k=id∧KeepsOthers W W'∧Ix xs W'
 | _,_,_=>False
theorem wpIn_rangeBox {n id:Nat}{P:Program}{g:Operand}{ps:Array Tmp}{assign body:Code}{Q:Exit→Act→World→Prop}{a:Act}{w w0:World}
  {gf:Nat} {lb:Array Value} {b lo hi:Nat} {Ok:List ByteArray→ByteArray→Prop} {S:List ByteArray→Prop}
  (hg:a.eval g=.func (.func gf) #[] lb) (eg:∀ args w,(callFunc gf args).run P w=.ok (.enter gf args) w) (hseq:SeqBox P gf lb b lo hi Ok S w0) (hb0:Below w0.heap.size w0 w)
  (hbw:b < w.heap.size) (hhi:hi≤w.heap.size) (hps:ps.size=1)
  (I Ix:List ByteArray→World→Prop) (hI:OwnFrom w.heap.size I) (hIx:OwnFrom w.heap.size Ix) (hIb:Spare b I) (h0:I [] w) (a₁:ByteArray→Act)
  (hassign:∀ (l:Nat) (x:ByteArray) (W:World) (K:Act→World→Prop),K (a₁ x) W→
   assign.wpIn (Fence.wide.inRound l) (n - 1 - 1) P (Exit.then K (fun _ _ _=>False)) { tmps:=(ps.zip #[.string x]).foldl (fun t (p,v)=>t.setIfInBounds p v) a.tmps,defers:=[] } W)
  (hbody:∀ (l:Nat) (pre:List ByteArray) (x:ByteArray) (W:World),w.heap.size≤W.heap.size→I pre W→Ok pre x→body.wpIn (Fence.wide.inRound l) (n - 1 - 1) P (RoundEnds id lo hi I Ix (pre ++ [x]) W) (a₁ x) W)
  (hdone:∀ (D:Nat) (xs:List ByteArray) (W:World),w.heap.size≤D→S xs→I xs W→W.heap[D]?=some (.deferred (some []))→Q .normal { a with defers:={ target:=.collected D,args:=#[] } :: a.defers } W)
  (hstop:∀ (D:Nat) (pre rest:List ByteArray) (W:World),w.heap.size≤D→S (pre ++ rest)→Ix pre W→W.heap[D]?=some (.deferred (some []))→(Code.exit id).wpIn Fence.wide n P Q { a with defers:={ target:=.collected D,args:=#[] } :: a.defers } W) :
  (Code.rangeFunc g ps assign body).wpIn Fence.wide n P Q a w:=by
 refine wpIn_rangeFunc fun fn hfn=>?_;obtain⟨mk,hmk⟩:∃ mk:LoopState→Option Code→Obj,mk=fun st pe=>.loop { state:=st,pending:=pe,fn,tmps:=a.tmps,params:=ps,assign,body,defers:=w.heap.size }:=⟨_,rfl⟩
 obtain⟨W1,hW1⟩:∃ W1,W1=(w.alloc (.deferred (some []))).alloc (mk .ready none):=⟨_,rfl⟩
 have hsz:W1.heap.size=w.heap.size+1+1:=by rw[hW1];simp
 have hL1:W1.heap[w.heap.size+1]?=some (mk .ready none):=by
  rw[hW1];have h:=World.alloc_heap_new (w.alloc (.deferred (some []))) (mk .ready none);rwa [World.size_alloc] at h
 have hD1:W1.heap[w.heap.size]?=some (.deferred (some [])):=by
  rw[hW1];exact (Below.heap_alloc _ _ _ (by simp)).trans (World.alloc_heap_new w _)
 have hcells:∀ st pe,(mk st pe).isCells=false:=fun st pe=>by rw[hmk];rfl
 refine⟨w.heap.size+1,[{ target:=.collected w.heap.size,args:=#[] }],W1,{ target:=.fn (.func gf) lb,args:=#[.func (.yield (w.heap.size+1)) #[] #[]] },W1,gf,
  #[.func (.yield (w.heap.size + 1)) #[] #[]] ++ lb, W1, ?_, ?_, fun _ _ => trivial, ?_, fun h => by simp [Fence.wide] at h, ?_⟩
 ·rw[hW1,hmk];exact run_enterLoop_outer _ _ _ _ _
 ·simp only[resolve,hg];simp[go_sem]
 ·simp[invoke,go_sem,eg]
 have hb1:Below w0.heap.size w0 W1:=by
  rw[hW1];exact hb0.trans ((((Below.refl _ w).alloc (Nat.le_refl _) _).alloc (by simp) _).mono hb0.size)
 have hI1:I [] W1:=by
  rw[hW1];exact hI.alloc _ (hI.alloc _ h0)
 refine (hseq (n - 1) (w.heap.size+1)
  (fun pre W=>I pre W∧W.heap[w.heap.size+1]?=some (mk .ready none)∧W.heap[w.heap.size]?=some (.deferred (some [])))
  (fun pre W=>Ix pre W∧W.heap[w.heap.size+1]?=some (mk .done (some (.exit id)))∧W.heap[w.heap.size]?=some (.deferred (some [])))
  W1 hb1 ?sp ?rounds ⟨hI1,hL1,hD1⟩).mono ?behind
 case sp=>
  rintro s A v ⟨h1,h2,h3⟩;exact⟨hIb s A v h1,(Below.heap_setCell A ⟨b,0,none⟩ v _ (by simp;omega)).trans h2,(Below.heap_setCell A ⟨b,0,none⟩ v _ (by simp;omega)).trans h3⟩
 case rounds=>
  rintro pre x W ⟨hi1,hl,hk⟩ hok;have hlt:w.heap.size+1 < W.heap.size:=(Array.getElem?_eq_some_iff.1 hl).1;have hy:=hl;rw[hmk] at hy;have hyr:=run_yield (P:=P) (args:=#[.string x]) hy (by simp[hps]);refine⟨fn,_,assign,body,hyr,roundIn_of_wpIn hfn (hassign _ x W _ ⟨_,run_beginRound hy rfl,?_⟩)⟩;have eb:(Obj.loop { state:=.busy,pending:=none,fn,tmps:=a.tmps,params:=ps,assign,body,defers:=w.heap.size })=mk .busy none:=by rw[hmk]
  obtain⟨W2,hW2⟩:∃ W2,W2=W.putObj (w.heap.size+1) (mk .busy none):=⟨_,rfl⟩
  have hgoal:body.wpIn (Fence.wide.inRound (w.heap.size+1)) (n - 1 - 1) P (RoundEnds id lo hi I Ix (pre ++ [x]) W2) (a₁ x) W2:=
   hbody _ pre x W2 (by rw[hW2];simp;omega) (by rw[hW2];exact hI.putObj _ hi1 (by omega) hl (hcells _ _)) hok
  have hl2:W2.heap[w.heap.size+1]?=some (mk .busy none):=by rw[hW2];exact World.putObj_heap_same hlt
  have hk2:W2.heap[w.heap.size]?=some (.deferred (some [])):=by rw[hW2];exact (World.putObj_heap_other (by omega)).trans hk
  have hh2:Held lo hi W W2:=by rw[hW2];exact (Held.refl lo hi W).putObj (by omega) _
  have fin:∀ (st:LoopState) (jump:Option Code) (W3:World),(st=if jump.isNone then .ready else .done)→KeepsOthers W2 W3→
    (Instr.endRound (w.heap.size+1) jump).run P W3=.ok (.bool jump.isNone) (W3.putObj (w.heap.size+1) (mk st jump))∧W3.heap[w.heap.size+1]?=some (mk .busy none)∧
    (W3.putObj (w.heap.size+1) (mk st jump)).heap[w.heap.size+1]?=some (mk st jump)∧(W3.putObj (w.heap.size+1) (mk st jump)).heap[w.heap.size]?=some (.deferred (some [])):=by
   intro st jump W3 hst hk3;subst hst;have hl3:=hk3.same _ _ hl2 (hcells _ _);have hl3':=hl3;rw[hmk] at hl3';have hr:=run_endRound (P:=P) jump hl3';exact⟨by rw[hmk];exact hr,hl3,World.putObj_heap_same (Array.getElem?_eq_some_iff.1 hl3).1,(World.putObj_heap_other (by omega)).trans (hk3.same _ _ hk2 rfl)⟩
  show body.wpIn _ _ P _ _ (W.putObj (w.heap.size+1) (.loop { state:=.busy,pending:=none,fn,tmps:=a.tmps,params:=ps,assign,body,defers:=w.heap.size }));rw[eb,← hW2];refine wpIn_mono hgoal ?_;rintro e a3 W3 hp;cases e with
  | normal=>
   obtain⟨hk3,hh3,hi3⟩:=hp;obtain⟨hr,hl3,hl4,hk4⟩:=fin .ready none W3 rfl hk3;exact⟨_,_,hr,.inl ⟨rfl,⟨hI.putObj _ hi3 (by omega) hl3 (hcells _ _),hl4,hk4⟩,(hh2.trans hh3).putObj (by omega) _⟩⟩
  | ret=>exact (hp:False).elim
  | exit k=>
   obtain⟨rfl,hk3,hi3⟩:=hp;obtain⟨hr,hl3,hl4,hk4⟩:=fin .done (some (.exit k)) W3 rfl hk3;exact⟨_,_,hr,.inr ⟨rfl,hIx.putObj _ hi3 (by omega) hl3 (hcells _ _),hl4,hk4⟩⟩
  | goto t=>exact (hp:False).elim
  | panic ch=>exact (hp:False).elim
  | outgrown=>exact (hp:False).elim
 case behind=>
  rintro e W2 ⟨⟨v,rfl⟩,(⟨xs,hS,hi1,hl,hk⟩ | ⟨pre,rest,hS,hi1,hl,hk⟩)⟩
  ·have hl':=hl;rw[hmk] at hl';have hr:=run_endLoop (P:=P) hl' (by simp);exact⟨none,_,hr,hdone _ xs _ (Nat.le_refl _) hS (hI.putObj _ hi1 (by omega) hl (hcells _ _)) ((World.putObj_heap_other (by omega)).trans hk)⟩
  ·have hl':=hl;rw[hmk] at hl';have hr:=run_endLoop (P:=P) hl' (by simp);exact⟨some (.exit id),_,hr,hstop _ pre rest _ (Nat.le_refl _) hS (hIx.putObj _ hi1 (by omega) hl (hcells _ _)) ((World.putObj_heap_other (by omega)).trans hk)⟩
attribute [local go_sem] Oper.semAt_some

def joinS:List (List UInt8)→List UInt8
 | []=>[]
 | [a]=>a
 | a :: l=>a ++ 32 :: joinS l
theorem splits:∀ l:List UInt8,∃ ls,ls≠[]∧(∀ x ∈ ls,∀ c ∈ x,c≠32)∧joinS ls=l
 | []=>⟨[[]],by simp,by simp,rfl⟩
 | c :: l=>by
  obtain⟨ls,h1,h2,h3⟩:=splits l;cases ls with
  | nil=>exact absurd rfl h1
  | cons a ls=>
   by_cases hc:c=32
   ·refine⟨[] :: a :: ls,by simp,?_,?_⟩
    ·intro x hx;rcases List.mem_cons.1 hx with rfl | hx
     ·intro c hc;cases hc
     ·exact h2 x hx
    ·show [] ++ 32 :: joinS (a :: ls)=_;rw[h3,hc];rfl
   ·refine⟨(c :: a) :: ls,by simp,?_,?_⟩
    ·intro x hx;rcases List.mem_cons.1 hx with rfl | hx
     ·intro d hd;rcases List.mem_cons.1 hd with rfl | hd
      ·exact hc
      ·exact h2 a List.mem_cons_self d hd
     ·exact h2 x (List.mem_cons_of_mem _ hx)
    ·cases ls with
     | nil=>show c :: a=_;rw[← h3];rfl
     | cons b ls=>show (c :: a) ++ 32 :: joinS (b :: ls)=_;rw[← h3];rfl
theorem join_app (r:List (List UInt8)) (hr:r≠[]):∀ pre:List (List UInt8),joinS (pre ++ r)=pre.flatMap (· ++ [32]) ++ joinS r
 | []=>rfl
 | [a]=>by
  cases r with
  | nil=>exact absurd rfl hr
  | cons b r=>show a ++ 32 :: joinS (b :: r)=_;simp
 | a :: b :: pre=>by
  have ih:=join_app r hr (b :: pre);show a ++ 32 :: joinS (b :: pre ++ r)=_;rw[ih];simp only[List.flatMap_cons,List.append_assoc,List.cons_append,List.nil_append]
theorem ix_cases:∀ (l:List UInt8)(c:UInt8),(Lib.indexByte l c = -1∧c ∉ l)∨∃ k:Nat,Lib.indexByte l c=k∧k < l.length∧l=l.take k ++ c :: l.drop (k+1)∧c ∉ l.take k
 | [],c=>.inl ⟨rfl,by simp⟩
 | b :: l,c=>by
  unfold Lib.indexByte;by_cases hb:b=c
  ·subst hb;refine .inr ⟨0,by simp,by simp,by simp,by simp⟩
  ·rw[if_neg (by simpa using hb)];rcases ix_cases l c with ⟨h1,h2⟩ | ⟨k,h1,h2,h3,h4⟩
   ·rw[h1];exact .inl ⟨rfl,fun h=>(List.mem_cons.1 h).elim (fun h=>hb h.symm) h2⟩
   ·rw[h1,if_neg (by simp only[beq_iff_eq];omega)];refine .inr ⟨k+1,by simp,by simpa using h2,?_,?_⟩
    ·simpa using h3
    ·intro h;rw[List.take_succ_cons] at h;exact (List.mem_cons.1 h).elim (fun h=>hb h.symm) h4
def Come (s:ByteArray)(pre:List ByteArray)(r:ByteArray):Prop:=s.data.toList=(pre.map (·.data.toList)).flatMap (· ++ [32]) ++ r.data.toList∧∀ x ∈ pre,∀ c ∈ x.data.toList,c≠32
def Parts56 (s:ByteArray)(xs:List ByteArray):Prop:=xs≠[]∧(∀ x ∈ xs,∀ c ∈ x.data.toList,c≠32)∧joinS (xs.map (·.data.toList))=s.data.toList
def Fits (s:ByteArray)(pre:List ByteArray)(x:ByteArray):Prop:=pre.length+(pre.map ByteArray.size).sum+x.size≤s.size
theorem size_toList (s:ByteArray):s.data.toList.length=s.size:=rfl
theorem come_len:∀ pre:List ByteArray,((pre.map (·.data.toList)).flatMap (· ++ [32])).length=pre.length+(pre.map ByteArray.size).sum
 | []=>rfl
 | x :: pre=>by
  have ih:=come_len pre;simp only[List.map_cons,List.flatMap_cons,List.length_append,List.length_cons,List.length_nil,List.sum_cons] at ih ⊢;rw[ih,size_toList];omega
theorem Come.fits {s r:ByteArray}{pre:List ByteArray}(h:Come s pre r):pre.length+(pre.map ByteArray.size).sum+r.size=s.size:=by
 have h1:=congrArg List.length h.1;rw[List.length_append,come_len,size_toList,size_toList] at h1;omega
theorem Come.start (s:ByteArray):Come s [] s:=⟨by simp,by simp⟩
theorem Come.last {s r:ByteArray}{pre:List ByteArray}(h:Come s pre r)(hr:∀ c ∈ r.data.toList,c≠32):Parts56 s (pre ++ [r]):=by
 refine⟨by simp,?_,?_⟩
 ·intro x hx;rcases List.mem_append.1 hx with hx | hx
  ·exact h.2 x hx
  ·rw[List.mem_singleton.1 hx];exact hr
 ·rw[List.map_append,join_app _ (by simp),h.1];rfl
theorem Come.some_ {s r:ByteArray}{pre:List ByteArray}(h:Come s pre r):∃ rest,Parts56 s (pre ++ rest):=by
 obtain⟨ls,h1,h2,h3⟩:=splits r.data.toList;refine⟨ls.map (fun l=>⟨l.toArray⟩),by simp[h1],?_,?_⟩
 ·intro x hx;rcases List.mem_append.1 hx with hx | hx
  ·exact h.2 x hx
  ·obtain⟨l,hl,rfl⟩:=List.mem_map.1 hx;exact h2 l hl
 ·rw[List.map_append,List.map_map];have e:List.map ((fun x:ByteArray=>x.data.toList) ∘ fun l=>(⟨l.toArray⟩:ByteArray)) ls=ls:=by
   rw[show ((fun x:ByteArray=>x.data.toList) ∘ fun l=>(⟨l.toArray⟩:ByteArray))=id from rfl,List.map_id]
  rw[e,join_app _ h1,h3,h.1]
theorem Come.next {s r x q:ByteArray}{pre:List ByteArray}(h:Come s pre r)(he:r.data.toList=x.data.toList ++ 32 :: q.data.toList)(hx:∀ c ∈ x.data.toList,c≠32):Come s (pre ++ [x]) q:=by
 refine⟨?_,?_⟩
 ·rw[h.1,he]
  simp
 ·intro y hy;rcases List.mem_append.1 hy with hy | hy
  ·exact h.2 y hy
  ·rw[List.mem_singleton.1 hy];exact hx
set_option maxHeartbeats 1000000 in
theorem indexByte_any (s:ByteArray)(c:Int)(w:World):Calls Tryz.prog 141 #[.string s,.int .u8 c] w fun e w'=>e=.returned (.int .i64 (Lib.indexByte s.data.toList c.toNat.toUInt8))∧w'=w:=by
 go_enter Tryz.func141,Tryz.ntmps141;go_wp2;rw[run_callFunc_extern Tryz.func184 (by kernel_rfl) (by kernel_rfl) (by kernel_rfl) (e:=Extern.BytealgIndexByte.indexByte) (by kernel_rfl),Lib.run_indexByteString];simp only[Result.andThen];rw[Oper.upon_value];go_wp2;go_ret;exact⟨rfl,rfl⟩
set_option maxHeartbeats 2000000 in
theorem indexL_any (s:ByteArray)(w:World):Calls Tryz.prog 111 #[.string s,.string ⟨#[32]⟩] w fun e w'=>e=.returned (.int .i64 (Lib.indexByte s.data.toList 32))∧w'=w:=by
 by_cases hs:([32]:List UInt8)=s.toList
 ·have he:(([32]:List UInt8) == s.toList)=true:=by rw[beq_iff_eq];exact hs
  have hv:Lib.indexByte s.data.toList 32=0:=by rw[← ByteArray.toList_eq,← hs];rfl
  rw[hv];clear hs hv;go_enter Tryz.func111,Tryz.ntmps111;go_wp2;go_ret;exact⟨rfl,rfl⟩
 ·have he:(([32]:List UInt8) == s.toList)=false:=by rw[beq_eq_false_iff_ne];exact hs
  clear hs;go_enter Tryz.func111,Tryz.ntmps111;go_wp2_with (go_at_call 141;refine (indexByte_any s _ _).mono ?_;rintro e w' ⟨rfl,rfl⟩);go_ret;exact⟨rfl,rfl⟩
set_option maxHeartbeats 1000000 in
theorem index_any (s:ByteArray)(w:World):Calls Tryz.prog 98 #[.string s,.string ⟨#[32]⟩] w fun e w'=>e=.returned (.int .i64 (Lib.indexByte s.data.toList 32))∧w'=w:=by
 go_enter Tryz.func98,Tryz.ntmps98;go_wp2_with (go_at_call 111;refine (indexL_any s _).mono ?_;rintro e w' ⟨rfl,rfl⟩);go_ret;exact⟨rfl,rfl⟩
def boxes (s:ByteArray)(w:World):World:=((w.alloc (.cells #[.string s] 9)).alloc (.cells #[.string ⟨#[32]⟩] 9)).alloc (.cells #[.int .i64 0] 3)
def seqAt (B:Nat):Value:=.func (.func 132) #[] #[.pointer (some ⟨B+1,0,none⟩),.pointer (some ⟨B,0,none⟩),.pointer (some ⟨B+2,0,none⟩)]
set_option maxHeartbeats 1000000 in
theorem splitSeq_any (s:ByteArray)(w:World):Calls Tryz.prog 100 #[.string s,.string ⟨#[32]⟩,.int .i64 0] w fun e w'=>e=.returned (seqAt w.heap.size)∧w'=boxes s w:=by
 go_enter Tryz.func100,Tryz.ntmps100;go_wp2;go_ret;exact⟨rfl,rfl⟩
set_option maxHeartbeats 1000000 in
theorem SplitSeq_any (s:ByteArray)(w:World):Calls Tryz.prog 64 #[.string s,.string ⟨#[32]⟩] w fun e w'=>e=.returned (seqAt w.heap.size)∧w'=boxes s w:=by
 go_enter Tryz.func64,Tryz.ntmps64;go_wp2_with (go_at_call 100;refine (splitSeq_any s _).mono ?_;rintro e w' ⟨rfl,rfl⟩);go_ret;exact⟨rfl,rfl⟩
end Go.Proofs.YtcfelnhmifkelaaGreatDoor
