/-
  texts Right56: parts of the proof; conditions stand with each theorem.
-/
import Derived.Test.YtcfelnhmifkelaaGreatDoorUG22
import Derived.Test.YtcfelnhmifkelaaGreatDoorUForms
import Derived.Test.YtcfelnhmifkelaaGreatDoorUG20
namespace Go.Proofs.YtcfelnhmifkelaaGreatDoor
open Lib(hid)
open Go.RowKit
set_option maxRecDepth 100000
set_option linter.unusedVariables false
set_option linter.unusedSimpArgs false
def finE:Option Cmd→Bool
 | none=>false
 | some r=>emptyC r
def finK (c:Cmd):Option Form→Bool
 | none=>false
 | some f=>finE (rgtTo f.slots c { c with kind:=0 })
theorem right_fin (c:Cmd):rightP c=finK c (kindF c.kind):=by
 unfold rightP finK finE;cases kindF c.kind with
 | none=>rfl
 | some f=>rfl
theorem rgtTo_at {ss:List Slot}{k:Nat}(h1:k < ss.length)(c r:Cmd):rgtTo (ss.drop k) c r=if ss[k].k=1∨ss[k].k=2 then (if badName ss[k] c.name=true then none else rgtTo (ss.drop (k+1)) c { r with name:=[] }) else if ss[k].k=3 then (if homedB c.cells=true then rgtTo (ss.drop (k+1)) c { r with cells:=[] } else none) else if ss[k].k=4 then (if c.get ss[k].fld < ss[k].lo∨ss[k].hi < c.get ss[k].fld then none else rgtTo (ss.drop (k+1)) c (r.set ss[k].fld 0)) else rgtTo (ss.drop (k+1)) c r:=by
 conv=>lhs;rw[List.drop_eq_getElem_cons h1]
 rfl
theorem rgtTo_end (c r:Cmd):rgtTo [] c r=some r:=by unfold rgtTo;rfl
theorem forms_fld:∀ f ∈ formsP,∀ s ∈ f.slots,s.k=4→FldOk s.fld:=by unfold FldOk;decide
theorem find_drop {fs:List Form}{k:Nat}(h:k < fs.length)(p:Form→Bool):(fs.drop k).find? p=if p fs[k]=true then some fs[k] else (fs.drop (k+1)).find? p:=by
 rw[List.drop_eq_getElem_cons h,List.find?_cons];cases p fs[k] <;> rfl
set_option maxHeartbeats 32000000 in
theorem right56_any (c:Cmd)(A:Option Addr)(cap:Nat)(w:World)(hg:GCell w)(he:ErrV w)(hc:Cls w A c.cells)(hn:c.name.length≤1000000) :
  Calls Tryz.prog 16 #[cmdV c (nmV c) (.slice A c.cells.length cap)] w fun e w'=>e=.returned (.bool (rightP c))∧Below w.heap.size w w':=by
 obtain⟨rb,hrb⟩:∃ b,b=rightP c:=⟨_,rfl⟩
 obtain⟨kf,hkf⟩:∃ x,x=kindF c.kind:=⟨_,rfl⟩
 rw[← hrb];have HRK:Hid (rb=finK c kf):=hid (by rw[hrb,hkf];exact right_fin c);have HKF:=hid hkf;have HG:=hid hg;have HE:=hid he;have HCL:=hid hc;have HNL:=hid hn;clear hrb hkf hg he hc hn;unfold cmdV;obtain⟨w1,hw1⟩:∃ W,W=w.alloc (.cells #[.int .i64 c.kind,.int .i64 c.x,.int .i64 c.y,.int .i64 c.n,.int .i64 c.m,.string (nmV c),.slice A c.cells.length cap,.int .i64 c.p,.int .i64 c.dx,.int .i64 c.dy] 34):=⟨_,rfl⟩
 have hk1:Blk w1 w.heap.size 34 #[.int .i64 c.kind,.int .i64 c.x,.int .i64 c.y,.int .i64 c.n,.int .i64 c.m,.string (nmV c),.slice A c.cells.length cap,.int .i64 c.p,.int .i64 c.dx,.int .i64 c.dy]:=by rw[hw1];exact Blk.new _ _ _
 have hb1:Below w.heap.size w w1:=by rw[hw1];exact below_new _ _
 have hfm:=forms_any w1;go_enter Tryz.func16,Tryz.ntmps16;go_upto_region 1 with fail
 rw[← hw1];clear hw1;have HFM:=hid hfm;have HK1:=hid hk1;have HB1:=hid hb1;clear hk1 hb1 hfm;go_wp2_with (go_at_call 25;refine HFM.out.mono ?_;rintro e w2 ⟨v2,rfl,hfa,hb2⟩;refine Hid.out ?_);refine hid ?_;obtain⟨FA,fc,rfl⟩:=hfa.form;have HP2:=hid (HK1.out.below hb2 HK1.out.lt);have HB2:=hid (HB1.out.trans (hb2.mono HB1.out.size));obtain⟨fs,hfs⟩:∃ x,x=formsP:=⟨_,rfl⟩
 rw[← hfs] at hfa ⊢;have HFS:=hid hfs;have HFA:=hid hfa;have HFN:Hid (fs.length=12):=hid (by rw[hfs];rfl);clear hfs hfa hb2 HFM HK1 HB1;go_wp2;go_loopw [13] (fun iv wr=>∃ k:Nat,k≤fs.length∧iv=.int .i64 k∧Hid (Below w2.heap.size w2 wr)∧Hid ((fs.drop k).find? (fun f=>decide (f.kind=c.kind))=kf)) (fun iv _=>fs.length - (intOf iv).toNat)
 case atStart=>exact⟨0,Nat.zero_le _,rfl,hid (Below.refl _ _),hid (by rw[HKF.out,HFS.out];rfl)⟩
 case round=>
  obtain⟨k,hk,rfl,HBq,HT⟩:=hrel;have hwk:wrap64 ((k:Int)+1)=(k:Int)+1:=by have:=HFN.out;unfold wrap64;omega
  have HBW:=hid (HB2.out.trans (HBq.out.mono HB2.out.size));by_cases hlt:k < fs.length
  ·obtain⟨fb,fo,fcc,sv,efv,hfbl,f0,f1,f2,hsl2⟩:=HFA.out.at_ hlt;have hsl:=hsl2.ext HBq.out
   replace f0:=(HBq.out.cell (World.block_lt_of_cell? _ _ f0)).trans f0
   replace f1:=(HBq.out.cell (World.block_lt_of_cell? _ _ f1)).trans f1
   replace f2:=(HBq.out.cell (World.block_lt_of_cell? _ _ f2)).trans f2
   injection efv with efv1 efv2 efv3
   subst efv1 efv3;obtain⟨SA,sc,rfl⟩:=hsl.form;have HSTEP:=hid (find_drop hlt (fun f=>decide (f.kind=c.kind)));have HMEM:Hid (fs[k] ∈ formsP):=hid (by rw[← HFS.out];exact List.getElem_mem hlt);obtain⟨ff,hff⟩:∃ f,f=fs[k]:=⟨_,rfl⟩
   rw[← hff] at f0 f1 f2 hsl HSTEP HMEM hsl2;clear hff;have HLT:=hid hlt;obtain⟨w3,hw3⟩:∃ W,W=wr.alloc (.cells #[.string ⟨ff.word.toArray⟩,.int .i64 ff.kind,.slice SA ff.slots.length sc] 52):=⟨_,rfl⟩
   obtain⟨p3,hp3⟩:∃ p,p=wr.heap.size:=⟨_,rfl⟩
   have hk3:Blk w3 p3 52 #[.string ⟨ff.word.toArray⟩,.int .i64 ff.kind,.slice SA ff.slots.length sc]:=by rw[hw3,hp3];exact Blk.new _ _ _
   have hb3:Below wr.heap.size wr w3:=by rw[hw3];exact below_new _ _
   have HB3:=hid (HBq.out.trans (hb3.mono HBq.out.size));have HBW3:=hid (HBW.out.trans (hb3.mono HBW.out.size));have HP3:=hid (HP2.out.below HB3.out HP2.out.lt);have y1:=hk3.cell_ 1 _ rfl;have HK3:=hid hk3;have HSL2:=hid hsl2;clear hk3 hb3 hsl2 hsl HBq HBW;have x0:w3.cell? ⟨w.heap.size,0,none⟩=some (.int .i64 c.kind):=HP3.out.cell_ 0 _ rfl;go_upto_region 4 with fail
   rw[← hw3,← hp3];clear hw3 hp3 f0 f1 f2;by_cases hkd:ff.kind=c.kind
   ·have dk:((ff.kind:Int) != c.kind)=false:=by rw[hkd];simp
    have HKS:Hid (kf=some ff):=hid (by rw[← HT.out,HSTEP.out,if_pos (decide_eq_true hkd)]);obtain⟨tot,htot⟩:∃ t,t=rgtTo ff.slots c { c with kind:=0 }:=⟨_,rfl⟩
    have HRB:Hid (rb=finE tot):=hid (by rw[HRK.out,HKS.out,htot];rfl);have HTOT:=hid htot;have HFLD:=hid (forms_fld ff HMEM.out);have HSN:Hid (ff.slots.length≤10):=hid (by
     have h:∀ f ∈ formsP,f.slots.length≤10:=by decide
     exact h ff HMEM.out)
    clear hkd htot HT HSTEP HMEM HKS HRK HKF;have x1:w3.cell? ⟨w.heap.size,1,none⟩=some (.int .i64 c.x):=HP3.out.cell_ 1 _ rfl;have x2:w3.cell? ⟨w.heap.size,2,none⟩=some (.int .i64 c.y):=HP3.out.cell_ 2 _ rfl;have x3:w3.cell? ⟨w.heap.size,3,none⟩=some (.int .i64 c.n):=HP3.out.cell_ 3 _ rfl;have x4:w3.cell? ⟨w.heap.size,4,none⟩=some (.int .i64 c.m):=HP3.out.cell_ 4 _ rfl;have x5:w3.cell? ⟨w.heap.size,5,none⟩=some (.string (nmV c)):=HP3.out.cell_ 5 _ rfl;have x6:w3.cell? ⟨w.heap.size,6,none⟩=some (.slice A c.cells.length cap):=HP3.out.cell_ 6 _ rfl;have x7:w3.cell? ⟨w.heap.size,7,none⟩=some (.int .i64 c.p):=HP3.out.cell_ 7 _ rfl;have x8:w3.cell? ⟨w.heap.size,8,none⟩=some (.int .i64 c.dx):=HP3.out.cell_ 8 _ rfl;have x9:w3.cell? ⟨w.heap.size,9,none⟩=some (.int .i64 c.dy):=HP3.out.cell_ 9 _ rfl;obtain⟨w5,hw5⟩:∃ W,w3.alloc (.cells #[.int .i64 0,.int .i64 c.x,.int .i64 c.y,.int .i64 c.n,.int .i64 c.m,.string (nmV c),.slice A c.cells.length cap,.int .i64 c.p,.int .i64 c.dx,.int .i64 c.dy] 34)=W:=⟨_,rfl⟩
    obtain⟨p5,hp5⟩:∃ p,w3.heap.size=p:=⟨_,rfl⟩
    have hk5:Blk w5 p5 34 (cmdB { c with kind:=0 } (.slice A c.cells.length cap)):=by rw[← hw5,← hp5];exact Blk.new w3 34 _
    have hb5:Below w3.heap.size w3 w5:=by rw[← hw5];exact below_new w3 _
    have y2:=(HK3.out.below hb5 HK3.out.lt).cell_ 2 _ rfl;have HB5:=hid (HB3.out.trans (hb5.mono HB3.out.size));have HBW5:=hid (HBW3.out.trans (hb5.mono HBW3.out.size));have HPL:Hid (w2.heap.size≤p5):=hid (by rw[← hp5];exact HB3.out.size);have HPL5:Hid (w2.heap.size≤w5.heap.size):=hid HB5.out.size;have HK5:=hid hk5;clear hk5 hb5;go_upto_region 7 with fail
    (try rw[hw5]);(try rw[hp5]);clear hw5 hp5 x0 x1 x2 x3 x4 x5 x6 x7 x8 x9 y1 HK3;go_wp2;clear y2;obtain⟨ss,hss⟩:∃ s,s=ff.slots:=⟨_,rfl⟩
    rw[← hss] at HSL2 HFLD HSN HTOT ⊢;clear hss;have hkO:=hk;clear hk hlt;go_loopw [27] (fun iv wr=>∃ (k:Nat) (rr:Cmd) (A':Option Addr) (cap':Nat),k≤ss.length∧iv=.int .i64 k∧Hid (Ob p5 w5 wr)∧Hid (Blk wr p5 34 (cmdB rr (.slice A' rr.cells.length cap')))∧Hid (rgtTo (ss.drop k) c rr=tot)) (fun iv _=>ss.length - (intOf iv).toNat)
    case atStart=>exact⟨0,_,A,cap,Nat.zero_le _,rfl,hid (Ob.refl _ _),HK5,hid HTOT.out.symm⟩
    case round=>
     clear HK5 HTOT;obtain⟨k,rr,A',cap',hk,rfl,HBq,HKC,HT⟩:=hrel;have hwk:wrap64 ((k:Int)+1)=(k:Int)+1:=by have:=HSN.out;unfold wrap64;omega
     have HBX:=hid (HB5.out.trans (HBq.out.low (B:=w2.heap.size) HPL.out HPL5.out));have HBW:=hid (HB2.out.trans (HBX.out.mono HB2.out.size));have HKP:=hid (HP2.out.below HBX.out HP2.out.lt);by_cases hlt:k < ss.length
     ·obtain⟨sb,so,sc',e,-,q0,q1,q2,q3,q4⟩:=(HSL2.out.ext HBX.out).at_ hlt;injection e with e1 e2 e3
      subst e1 e3;have hat:=rgtTo_at hlt c rr;have hfo:=HFLD.out ss[k] (List.getElem_mem hlt);obtain⟨s0,hs0⟩:∃ s,s=ss[k]:=⟨_,rfl⟩
      rw[← hs0] at q0 q1 q2 q3 q4 hat hfo;have hf:=fldV_or s0.fld;obtain⟨fv,hfv⟩:∃ fv,fv=fldV s0.fld:=⟨_,rfl⟩
      rw[← hfv] at q2 hf;have HAT:=hid hat;have HLT:=hid hlt;have HFO:=hid hfo;have HFV:=hid hfv;clear hs0 hfv hat hfo HBX;rcases hf with hf | ⟨fn,hf⟩
      ·subst hf;obtain⟨w6,hw6⟩:∃ W,W=wr.alloc (.cells #[.int .i64 (s0.k:Int),.string ⟨s0.text.toArray⟩,.nilFunc,.int .i64 s0.lo,.int .i64 s0.hi] 60):=⟨_,rfl⟩
       obtain⟨p6,hp6⟩:∃ p,p=wr.heap.size:=⟨_,rfl⟩
       have hk6:Blk w6 p6 60 #[.int .i64 (s0.k:Int),.string ⟨s0.text.toArray⟩,.nilFunc,.int .i64 s0.lo,.int .i64 s0.hi]:=by rw[hw6,hp6];exact Blk.new _ _ _
       have hb6x:Below wr.heap.size wr w6:=by rw[hw6];exact below_new _ _
       have HB6:=hid (HBq.out.below hb6x);have HBW6:=hid (HBW.out.trans (hb6x.mono HBW.out.size));have HKC6:=hid (HKC.out.below hb6x HKC.out.lt);have HKP6:=hid (HKP.out.below hb6x HKP.out.lt);have y0:=hk6.cell_ 0 _ rfl;have y2:=hk6.cell_ 2 _ rfl;have y3:=hk6.cell_ 3 _ rfl;have y4:=hk6.cell_ 4 _ rfl;have HK6:=hid hk6;have x0:w6.cell? ⟨w.heap.size,0,none⟩=some (.int .i64 c.kind):=HKP6.out.cell_ 0 _ rfl;have x1:w6.cell? ⟨w.heap.size,1,none⟩=some (.int .i64 c.x):=HKP6.out.cell_ 1 _ rfl;have x2:w6.cell? ⟨w.heap.size,2,none⟩=some (.int .i64 c.y):=HKP6.out.cell_ 2 _ rfl;have x3:w6.cell? ⟨w.heap.size,3,none⟩=some (.int .i64 c.n):=HKP6.out.cell_ 3 _ rfl;have x4:w6.cell? ⟨w.heap.size,4,none⟩=some (.int .i64 c.m):=HKP6.out.cell_ 4 _ rfl;have x5:w6.cell? ⟨w.heap.size,5,none⟩=some (.string (nmV c)):=HKP6.out.cell_ 5 _ rfl;have x6:w6.cell? ⟨w.heap.size,6,none⟩=some (.slice A c.cells.length cap):=HKP6.out.cell_ 6 _ rfl;have x7:w6.cell? ⟨w.heap.size,7,none⟩=some (.int .i64 c.p):=HKP6.out.cell_ 7 _ rfl;have x8:w6.cell? ⟨w.heap.size,8,none⟩=some (.int .i64 c.dx):=HKP6.out.cell_ 8 _ rfl;have x9:w6.cell? ⟨w.heap.size,9,none⟩=some (.int .i64 c.dy):=HKP6.out.cell_ 9 _ rfl;clear hk6 hb6x HKC HBq HBW HKP;go_upto_region 10 with fail
       rw[← hw6,← hp6];clear hw6 hp6 q0 q1 q2 q3 q4;by_cases hk0:s0.k=1
       ·have e1:((s0.k:Int) == 1)=true:=by rw[hk0];rfl
        have e2:((s0.k:Int) == 2)=false:=by rw[hk0];rfl
        have hC:=isRule_any (nmV c) w6 (HG.out.ext HBW6.out) (HE.out.ext HBW6.out) (by have:=HNL.out;rw[nmV_data];omega);rw[nmV_data] at hC;have HC:=hid hC;clear hC;go_wp2_with (go_at_call 42;refine HC.out.mono ?_;intro e w7 hx;obtain⟨rfl,hb7⟩:=hx;refine Hid.out ?_);refine hid ?_;have HB7:=hid (HB6.out.below hb7);have HBW7:=hid (HBW6.out.trans (hb7.mono HBW6.out.size));have hk7:=HK6.out.below hb7 HK6.out.lt;have y7:=hk7.cell_ 0 _ rfl;have HKC7:=hid (HKC6.out.below hb7 HKC6.out.lt);clear hb7 hk7 HC HK6 HKC6 HB6 HBW6;obtain⟨bv,hbv⟩:∃ b,b=ruleV c.name:=⟨_,rfl⟩
        rw[← hbv];cases bv with
        | true=>
         have HBN0:badName s0 c.name=false:=by unfold badName;rw[hk0,← hbv];rfl
         have HN:Hid (rgtTo (ss.drop (k+1)) c { rr with name:=[] } = tot):=hid (by rw[← HT.out,HAT.out,if_pos (by omega),if_neg (by rw[HBN0];exact Bool.false_ne_true)]);have fz:=HKC7.out.frozen 5;have cz:=HKC7.out.cell_ 5 _ rfl;have HKN:Hid (Blk (w7.setCell ⟨p5,5,none⟩ (.string ⟨#[]⟩)) p5 34 (cmdB { rr with name:=[] } (.slice A' rr.cells.length cap'))):=hid (HKC7.out.set_ 5 (.string ⟨#[]⟩));have HBN:Hid (Ob p5 w5 (w7.setCell ⟨p5,5,none⟩ (.string ⟨#[]⟩))):=hid (HB7.out.set 5 _);clear hbv hk0 HBN0;go_wp2;go_roundw
         case rel=>exact⟨k+1,_,A',cap',HLT.out,(by first | rfl | (rw[hwk];rfl)),HBN,HKN,HN⟩
         case measure=>(try rw[hwk]);exact meas_step5b HLT.out
        | false=>
         have HBN0:badName s0 c.name=true:=by unfold badName;rw[hk0,← hbv];rfl
         have HTN:Hid (tot=none):=hid (by rw[← HT.out,HAT.out,if_pos (by omega),if_pos HBN0]);clear hbv hk0 HBN0;have HN:Hid (rb=false):=hid (by rw[HRB.out,HTN.out];rfl);go_wp2;go_ret;exact⟨ret_b56 HN.out.symm,HBW7.out⟩
       ·have e1:((s0.k:Int) == 1)=false:=beq_false_of_ne (by omega);have hn1:=hk0;clear hk0;by_cases hk0:s0.k=2
        ·have e2:((s0.k:Int) == 2)=true:=by rw[hk0];rfl
         clear hn1;have hC:=isName_any (nmV c) w6 (by have:=HNL.out;rw[nmV_data];omega);rw[nmV_data] at hC;have HC:=hid hC;clear hC;go_wp2_with (go_at_call 43;refine HC.out.mono ?_;intro e w7 hx;obtain⟨rfl,hb7⟩:=hx;refine Hid.out ?_);refine hid ?_;have HB7:=hid (HB6.out.below hb7);have HBW7:=hid (HBW6.out.trans (hb7.mono HBW6.out.size));have hk7:=HK6.out.below hb7 HK6.out.lt;have y7:=hk7.cell_ 0 _ rfl;have HKC7:=hid (HKC6.out.below hb7 HKC6.out.lt);clear hb7 hk7 HC HK6 HKC6 HB6 HBW6;obtain⟨bv,hbv⟩:∃ b,b=nmW c.name:=⟨_,rfl⟩
         rw[← hbv];cases bv with
         | true=>
          have HBN0:badName s0 c.name=false:=by unfold badName;rw[hk0,← hbv];rfl
          have HN:Hid (rgtTo (ss.drop (k+1)) c { rr with name:=[] } = tot):=hid (by rw[← HT.out,HAT.out,if_pos (by omega),if_neg (by rw[HBN0];exact Bool.false_ne_true)]);have fz:=HKC7.out.frozen 5;have cz:=HKC7.out.cell_ 5 _ rfl;have HKN:Hid (Blk (w7.setCell ⟨p5,5,none⟩ (.string ⟨#[]⟩)) p5 34 (cmdB { rr with name:=[] } (.slice A' rr.cells.length cap'))):=hid (HKC7.out.set_ 5 (.string ⟨#[]⟩));have HBN:Hid (Ob p5 w5 (w7.setCell ⟨p5,5,none⟩ (.string ⟨#[]⟩))):=hid (HB7.out.set 5 _);clear hbv hk0 HBN0;go_wp2;go_roundw
          case rel=>exact⟨k+1,_,A',cap',HLT.out,(by first | rfl | (rw[hwk];rfl)),HBN,HKN,HN⟩
          case measure=>(try rw[hwk]);exact meas_step5b HLT.out
         | false=>
          have HBN0:badName s0 c.name=true:=by unfold badName;rw[hk0,← hbv];rfl
          have HTN:Hid (tot=none):=hid (by rw[← HT.out,HAT.out,if_pos (by omega),if_pos HBN0]);clear hbv hk0 HBN0;have HN:Hid (rb=false):=hid (by rw[HRB.out,HTN.out];rfl);go_wp2;go_ret;exact⟨ret_b56 HN.out.symm,HBW7.out⟩
        ·have e2:((s0.k:Int) == 2)=false:=beq_false_of_ne (by omega);have hat:=HAT.out;rw[if_neg (by omega)] at hat;by_cases hk3:s0.k=3
         ·have e3:((s0.k:Int) == 3)=true:=by rw[hk3];rfl
          rw[if_pos hk3] at hat;have HAT2:=hid hat;clear hn1 hk0 hk3 hat HAT;have HBX:=hid (box_any A cap c.cells w6 (HCL.out.ext HBW6.out))

          go_wp2_with (go_at_call 44;refine HBX.out.mono ?_;intro e w7 hx;obtain⟨rfl,hb7⟩:=hx;refine Hid.out ?_);refine hid ?_;obtain⟨bx,hbx⟩:∃ b,b=boxC c.cells:=⟨_,rfl⟩
          rw[← hbx];have HHD:Hid (homedB c.cells=(rightC c.cells && !(bx.2 && (decide (bx.1.x≠0) || decide (bx.1.y≠0))))):=hid (by rw[hbx];rfl);obtain⟨⟨bX,bY,bW,bH⟩,ok⟩:=bx;dsimp only at HHD ⊢;unfold bxV;dsimp only;obtain⟨w8,hw8⟩:∃ W,W=w7.alloc (.cells #[.int .i64 bX,.int .i64 bY,.int .i64 bW,.int .i64 bH] 73):=⟨_,rfl⟩
          obtain⟨p8,hp8⟩:∃ p,p=w7.heap.size:=⟨_,rfl⟩
          have hb8:Below w6.heap.size w6 w8:=by rw[hw8];exact hb7.alloc hb7.size _
          have hk8:Blk w8 p8 73 #[.int .i64 bX,.int .i64 bY,.int .i64 bW,.int .i64 bH]:=by rw[hw8,hp8];exact Blk.new _ _ _
          have HBW8:=hid (HBW6.out.trans (hb8.mono HBW6.out.size));have HK8:=hid hk8;have HKP8:=hid (HKP6.out.below hb8 HKP6.out.lt);have HKC8:=hid (HKC6.out.below hb8 HKC6.out.lt);have HB8:=hid (HB6.out.below hb8);have HW8:=hid hw8;have HP8:=hid hp8;clear hb7 hb8 hk8 hw8 hp8 hbx HBX HKC6 HKP6 HB6 x0 x1 x2 x3 x4 x5 x6 x7 x8 x9;have HRT:=hid (right_any A cap c.cells w8 (HCL.out.ext HBW8.out));go_upto_region 18 with fail
          rw[← HW8.out,← HP8.out];have x6:w8.cell? ⟨w.heap.size,6,none⟩=some (.slice A c.cells.length cap):=HKP8.out.cell_ 6 _ rfl;go_wp2_with (go_at_call 45;refine HRT.out.mono ?_;intro e w9 hx;obtain⟨rfl,hb9⟩:=hx;refine Hid.out ?_);refine hid ?_;have HBW9:=hid (HBW8.out.trans (hb9.mono HBW8.out.size));have HKC9:=hid (HKC8.out.below hb9 HKC8.out.lt);have HB9:=hid (HB8.out.below hb9);have hk9:=HK8.out.below hb9 HK8.out.lt;have z0:=hk9.cell_ 0 _ rfl;have z1:=hk9.cell_ 1 _ rfl;clear hb9 hk9 HRT HKC8 HB8 HBW8 HK8 HKP8 HW8 HP8 x6;obtain⟨rc,hrc⟩:∃ b,b=rightC c.cells:=⟨_,rfl⟩
          rw[← hrc] at HHD ⊢;clear hrc;cases rc with
          | false=>
           have HH:Hid (homedB c.cells=false):=hid (by rw[HHD.out];rfl);have HTN:Hid (tot=none):=hid (by rw[← HT.out,HAT2.out,if_neg (by rw[HH.out];exact Bool.false_ne_true)]);have HN:Hid (rb=false):=hid (by rw[HRB.out,HTN.out];rfl);go_wp2;go_ret;exact⟨ret_b56 HN.out.symm,HBW9.out⟩
          | true=>
           cases ok with
           | false=>
            have HH:Hid (homedB c.cells=true):=hid (by rw[HHD.out];rfl);have HN:Hid (rgtTo (ss.drop (k+1)) c { rr with cells:=[] } = tot):=hid (by rw[← HT.out,HAT2.out,if_pos HH.out]);have fz:=HKC9.out.frozen 6;have cz:=HKC9.out.cell_ 6 _ rfl;have HKN:Hid (Blk (w9.setCell ⟨p5,6,none⟩ (.slice none 0 0)) p5 34 (cmdB { rr with cells:=[] } (.slice none 0 0))):=hid (HKC9.out.set_ 6 (.slice none 0 0));have HBN:Hid (Ob p5 w5 (w9.setCell ⟨p5,6,none⟩ (.slice none 0 0))):=hid (HB9.out.set 6 _);go_wp2;go_roundw
            case rel=>exact⟨k+1,_,none,0,HLT.out,(by first | rfl | (rw[hwk];rfl)),HBN,HKN,HN⟩
            case measure=>(try rw[hwk]);exact meas_step5b HLT.out
           | true=>
            by_cases h0:bX=0
            ·have d0:(bX != 0)=false:=by rw[h0];rfl
             by_cases h1:bY=0
             ·have d1:(bY != 0)=false:=by rw[h1];rfl
              have HH:Hid (homedB c.cells=true):=hid (by rw[HHD.out,decide_eq_false (by rw[h0];simp),decide_eq_false (by rw[h1];simp)];rfl);clear h0 h1;have HN:Hid (rgtTo (ss.drop (k+1)) c { rr with cells:=[] } = tot):=hid (by rw[← HT.out,HAT2.out,if_pos HH.out]);have fz:=HKC9.out.frozen 6;have cz:=HKC9.out.cell_ 6 _ rfl;have HKN:Hid (Blk (w9.setCell ⟨p5,6,none⟩ (.slice none 0 0)) p5 34 (cmdB { rr with cells:=[] } (.slice none 0 0))):=hid (HKC9.out.set_ 6 (.slice none 0 0));have HBN:Hid (Ob p5 w5 (w9.setCell ⟨p5,6,none⟩ (.slice none 0 0))):=hid (HB9.out.set 6 _);go_wp2;go_roundw
              case rel=>exact⟨k+1,_,none,0,HLT.out,(by first | rfl | (rw[hwk];rfl)),HBN,HKN,HN⟩
              case measure=>(try rw[hwk]);exact meas_step5b HLT.out
             ·have d1:(bY != 0)=true:=by simpa using h1
              have HH:Hid (homedB c.cells=false):=hid (by rw[HHD.out,decide_eq_true h1];simp);clear h0 h1;have HTN:Hid (tot=none):=hid (by rw[← HT.out,HAT2.out,if_neg (by rw[HH.out];exact Bool.false_ne_true)]);have HN:Hid (rb=false):=hid (by rw[HRB.out,HTN.out];rfl);go_wp2;go_ret;exact⟨ret_b56 HN.out.symm,HBW9.out⟩
            ·have d0:(bX != 0)=true:=by simpa using h0
             have HH:Hid (homedB c.cells=false):=hid (by rw[HHD.out,decide_eq_true h0];simp);clear h0;have HTN:Hid (tot=none):=hid (by rw[← HT.out,HAT2.out,if_neg (by rw[HH.out];exact Bool.false_ne_true)]);have HN:Hid (rb=false):=hid (by rw[HRB.out,HTN.out];rfl);go_wp2;go_ret;exact⟨ret_b56 HN.out.symm,HBW9.out⟩
         ·have e3:((s0.k:Int) == 3)=false:=beq_false_of_ne (by omega);rw[if_neg hk3] at hat;by_cases hk4:s0.k=4
          ·have e4:((s0.k:Int) == 4)=true:=by rw[hk4];rfl
           exfalso;have h:=HFV.out;rcases HFO.out hk4 with h2 | h2 | h2 | h2 | h2 | h2 | h2 <;> (rw[h2] at h;cases h)
          ·have e4:((s0.k:Int) == 4)=false:=beq_false_of_ne (by omega);rw[if_neg hk4] at hat;have HN:Hid (rgtTo (ss.drop (k+1)) c rr=tot):=hid (by rw[← HT.out,hat]);have HKN:=HKC6;clear hn1 hk0 hk3 hk4 hat HAT;go_wp2;go_roundw
           case rel=>exact⟨k+1,_,A',cap',HLT.out,(by first | rfl | (rw[hwk];rfl)),HB6,HKN,HN⟩
           case measure=>(try rw[hwk]);exact meas_step5b HLT.out
      ·subst hf;obtain⟨w6,hw6⟩:∃ W,W=wr.alloc (.cells #[.int .i64 (s0.k:Int),.string ⟨s0.text.toArray⟩,.func fn #[] #[],.int .i64 s0.lo,.int .i64 s0.hi] 60):=⟨_,rfl⟩
       obtain⟨p6,hp6⟩:∃ p,p=wr.heap.size:=⟨_,rfl⟩
       have hk6:Blk w6 p6 60 #[.int .i64 (s0.k:Int),.string ⟨s0.text.toArray⟩,.func fn #[] #[],.int .i64 s0.lo,.int .i64 s0.hi]:=by rw[hw6,hp6];exact Blk.new _ _ _
       have hb6x:Below wr.heap.size wr w6:=by rw[hw6];exact below_new _ _
       have HB6:=hid (HBq.out.below hb6x);have HBW6:=hid (HBW.out.trans (hb6x.mono HBW.out.size));have HKC6:=hid (HKC.out.below hb6x HKC.out.lt);have HKP6:=hid (HKP.out.below hb6x HKP.out.lt);have y0:=hk6.cell_ 0 _ rfl;have y2:=hk6.cell_ 2 _ rfl;have y3:=hk6.cell_ 3 _ rfl;have y4:=hk6.cell_ 4 _ rfl;have HK6:=hid hk6;have x0:w6.cell? ⟨w.heap.size,0,none⟩=some (.int .i64 c.kind):=HKP6.out.cell_ 0 _ rfl;have x1:w6.cell? ⟨w.heap.size,1,none⟩=some (.int .i64 c.x):=HKP6.out.cell_ 1 _ rfl;have x2:w6.cell? ⟨w.heap.size,2,none⟩=some (.int .i64 c.y):=HKP6.out.cell_ 2 _ rfl;have x3:w6.cell? ⟨w.heap.size,3,none⟩=some (.int .i64 c.n):=HKP6.out.cell_ 3 _ rfl;have x4:w6.cell? ⟨w.heap.size,4,none⟩=some (.int .i64 c.m):=HKP6.out.cell_ 4 _ rfl;have x5:w6.cell? ⟨w.heap.size,5,none⟩=some (.string (nmV c)):=HKP6.out.cell_ 5 _ rfl;have x6:w6.cell? ⟨w.heap.size,6,none⟩=some (.slice A c.cells.length cap):=HKP6.out.cell_ 6 _ rfl;have x7:w6.cell? ⟨w.heap.size,7,none⟩=some (.int .i64 c.p):=HKP6.out.cell_ 7 _ rfl;have x8:w6.cell? ⟨w.heap.size,8,none⟩=some (.int .i64 c.dx):=HKP6.out.cell_ 8 _ rfl;have x9:w6.cell? ⟨w.heap.size,9,none⟩=some (.int .i64 c.dy):=HKP6.out.cell_ 9 _ rfl;clear hk6 hb6x HKC HBq HBW HKP;go_upto_region 10 with fail
       rw[← hw6,← hp6];clear hw6 hp6 q0 q1 q2 q3 q4;by_cases hk0:s0.k=1
       ·have e1:((s0.k:Int) == 1)=true:=by rw[hk0];rfl
        have e2:((s0.k:Int) == 2)=false:=by rw[hk0];rfl
        have hC:=isRule_any (nmV c) w6 (HG.out.ext HBW6.out) (HE.out.ext HBW6.out) (by have:=HNL.out;rw[nmV_data];omega);rw[nmV_data] at hC;have HC:=hid hC;clear hC;go_wp2_with (go_at_call 42;refine HC.out.mono ?_;intro e w7 hx;obtain⟨rfl,hb7⟩:=hx;refine Hid.out ?_);refine hid ?_;have HB7:=hid (HB6.out.below hb7);have HBW7:=hid (HBW6.out.trans (hb7.mono HBW6.out.size));have hk7:=HK6.out.below hb7 HK6.out.lt;have y7:=hk7.cell_ 0 _ rfl;have HKC7:=hid (HKC6.out.below hb7 HKC6.out.lt);clear hb7 hk7 HC HK6 HKC6 HB6 HBW6;obtain⟨bv,hbv⟩:∃ b,b=ruleV c.name:=⟨_,rfl⟩
        rw[← hbv];cases bv with
        | true=>
         have HBN0:badName s0 c.name=false:=by unfold badName;rw[hk0,← hbv];rfl
         have HN:Hid (rgtTo (ss.drop (k+1)) c { rr with name:=[] } = tot):=hid (by rw[← HT.out,HAT.out,if_pos (by omega),if_neg (by rw[HBN0];exact Bool.false_ne_true)]);have fz:=HKC7.out.frozen 5;have cz:=HKC7.out.cell_ 5 _ rfl;have HKN:Hid (Blk (w7.setCell ⟨p5,5,none⟩ (.string ⟨#[]⟩)) p5 34 (cmdB { rr with name:=[] } (.slice A' rr.cells.length cap'))):=hid (HKC7.out.set_ 5 (.string ⟨#[]⟩));have HBN:Hid (Ob p5 w5 (w7.setCell ⟨p5,5,none⟩ (.string ⟨#[]⟩))):=hid (HB7.out.set 5 _);clear hbv hk0 HBN0;go_wp2;go_roundw
         case rel=>exact⟨k+1,_,A',cap',HLT.out,(by first | rfl | (rw[hwk];rfl)),HBN,HKN,HN⟩
         case measure=>(try rw[hwk]);exact meas_step5b HLT.out
        | false=>
         have HBN0:badName s0 c.name=true:=by unfold badName;rw[hk0,← hbv];rfl
         have HTN:Hid (tot=none):=hid (by rw[← HT.out,HAT.out,if_pos (by omega),if_pos HBN0]);clear hbv hk0 HBN0;have HN:Hid (rb=false):=hid (by rw[HRB.out,HTN.out];rfl);go_wp2;go_ret;exact⟨ret_b56 HN.out.symm,HBW7.out⟩
       ·have e1:((s0.k:Int) == 1)=false:=beq_false_of_ne (by omega);have hn1:=hk0;clear hk0;by_cases hk0:s0.k=2
        ·have e2:((s0.k:Int) == 2)=true:=by rw[hk0];rfl
         clear hn1;have hC:=isName_any (nmV c) w6 (by have:=HNL.out;rw[nmV_data];omega);rw[nmV_data] at hC;have HC:=hid hC;clear hC;go_wp2_with (go_at_call 43;refine HC.out.mono ?_;intro e w7 hx;obtain⟨rfl,hb7⟩:=hx;refine Hid.out ?_);refine hid ?_;have HB7:=hid (HB6.out.below hb7);have HBW7:=hid (HBW6.out.trans (hb7.mono HBW6.out.size));have hk7:=HK6.out.below hb7 HK6.out.lt;have y7:=hk7.cell_ 0 _ rfl;have HKC7:=hid (HKC6.out.below hb7 HKC6.out.lt);clear hb7 hk7 HC HK6 HKC6 HB6 HBW6;obtain⟨bv,hbv⟩:∃ b,b=nmW c.name:=⟨_,rfl⟩
         rw[← hbv];cases bv with
         | true=>
          have HBN0:badName s0 c.name=false:=by unfold badName;rw[hk0,← hbv];rfl
          have HN:Hid (rgtTo (ss.drop (k+1)) c { rr with name:=[] } = tot):=hid (by rw[← HT.out,HAT.out,if_pos (by omega),if_neg (by rw[HBN0];exact Bool.false_ne_true)]);have fz:=HKC7.out.frozen 5;have cz:=HKC7.out.cell_ 5 _ rfl;have HKN:Hid (Blk (w7.setCell ⟨p5,5,none⟩ (.string ⟨#[]⟩)) p5 34 (cmdB { rr with name:=[] } (.slice A' rr.cells.length cap'))):=hid (HKC7.out.set_ 5 (.string ⟨#[]⟩));have HBN:Hid (Ob p5 w5 (w7.setCell ⟨p5,5,none⟩ (.string ⟨#[]⟩))):=hid (HB7.out.set 5 _);clear hbv hk0 HBN0;go_wp2;go_roundw
          case rel=>exact⟨k+1,_,A',cap',HLT.out,(by first | rfl | (rw[hwk];rfl)),HBN,HKN,HN⟩
          case measure=>(try rw[hwk]);exact meas_step5b HLT.out
         | false=>
          have HBN0:badName s0 c.name=true:=by unfold badName;rw[hk0,← hbv];rfl
          have HTN:Hid (tot=none):=hid (by rw[← HT.out,HAT.out,if_pos (by omega),if_pos HBN0]);clear hbv hk0 HBN0;have HN:Hid (rb=false):=hid (by rw[HRB.out,HTN.out];rfl);go_wp2;go_ret;exact⟨ret_b56 HN.out.symm,HBW7.out⟩
        ·have e2:((s0.k:Int) == 2)=false:=beq_false_of_ne (by omega);have hat:=HAT.out;rw[if_neg (by omega)] at hat;by_cases hk3:s0.k=3
         ·have e3:((s0.k:Int) == 3)=true:=by rw[hk3];rfl
          rw[if_pos hk3] at hat;have HAT2:=hid hat;clear hn1 hk0 hk3 hat HAT;have HBX:=hid (box_any A cap c.cells w6 (HCL.out.ext HBW6.out))

          go_wp2_with (go_at_call 44;refine HBX.out.mono ?_;intro e w7 hx;obtain⟨rfl,hb7⟩:=hx;refine Hid.out ?_);refine hid ?_;obtain⟨bx,hbx⟩:∃ b,b=boxC c.cells:=⟨_,rfl⟩
          rw[← hbx];have HHD:Hid (homedB c.cells=(rightC c.cells && !(bx.2 && (decide (bx.1.x≠0) || decide (bx.1.y≠0))))):=hid (by rw[hbx];rfl);obtain⟨⟨bX,bY,bW,bH⟩,ok⟩:=bx;dsimp only at HHD ⊢;unfold bxV;dsimp only;obtain⟨w8,hw8⟩:∃ W,W=w7.alloc (.cells #[.int .i64 bX,.int .i64 bY,.int .i64 bW,.int .i64 bH] 73):=⟨_,rfl⟩
          obtain⟨p8,hp8⟩:∃ p,p=w7.heap.size:=⟨_,rfl⟩
          have hb8:Below w6.heap.size w6 w8:=by rw[hw8];exact hb7.alloc hb7.size _
          have hk8:Blk w8 p8 73 #[.int .i64 bX,.int .i64 bY,.int .i64 bW,.int .i64 bH]:=by rw[hw8,hp8];exact Blk.new _ _ _
          have HBW8:=hid (HBW6.out.trans (hb8.mono HBW6.out.size));have HK8:=hid hk8;have HKP8:=hid (HKP6.out.below hb8 HKP6.out.lt);have HKC8:=hid (HKC6.out.below hb8 HKC6.out.lt);have HB8:=hid (HB6.out.below hb8);have HW8:=hid hw8;have HP8:=hid hp8;clear hb7 hb8 hk8 hw8 hp8 hbx HBX HKC6 HKP6 HB6 x0 x1 x2 x3 x4 x5 x6 x7 x8 x9;have HRT:=hid (right_any A cap c.cells w8 (HCL.out.ext HBW8.out));go_upto_region 18 with fail
          rw[← HW8.out,← HP8.out];have x6:w8.cell? ⟨w.heap.size,6,none⟩=some (.slice A c.cells.length cap):=HKP8.out.cell_ 6 _ rfl;go_wp2_with (go_at_call 45;refine HRT.out.mono ?_;intro e w9 hx;obtain⟨rfl,hb9⟩:=hx;refine Hid.out ?_);refine hid ?_;have HBW9:=hid (HBW8.out.trans (hb9.mono HBW8.out.size));have HKC9:=hid (HKC8.out.below hb9 HKC8.out.lt);have HB9:=hid (HB8.out.below hb9);have hk9:=HK8.out.below hb9 HK8.out.lt;have z0:=hk9.cell_ 0 _ rfl;have z1:=hk9.cell_ 1 _ rfl;clear hb9 hk9 HRT HKC8 HB8 HBW8 HK8 HKP8 HW8 HP8 x6;obtain⟨rc,hrc⟩:∃ b,b=rightC c.cells:=⟨_,rfl⟩
          rw[← hrc] at HHD ⊢;clear hrc;cases rc with
          | false=>
           have HH:Hid (homedB c.cells=false):=hid (by rw[HHD.out];rfl);have HTN:Hid (tot=none):=hid (by rw[← HT.out,HAT2.out,if_neg (by rw[HH.out];exact Bool.false_ne_true)]);have HN:Hid (rb=false):=hid (by rw[HRB.out,HTN.out];rfl);go_wp2;go_ret;exact⟨ret_b56 HN.out.symm,HBW9.out⟩
          | true=>
           cases ok with
           | false=>
            have HH:Hid (homedB c.cells=true):=hid (by rw[HHD.out];rfl);have HN:Hid (rgtTo (ss.drop (k+1)) c { rr with cells:=[] } = tot):=hid (by rw[← HT.out,HAT2.out,if_pos HH.out]);have fz:=HKC9.out.frozen 6;have cz:=HKC9.out.cell_ 6 _ rfl;have HKN:Hid (Blk (w9.setCell ⟨p5,6,none⟩ (.slice none 0 0)) p5 34 (cmdB { rr with cells:=[] } (.slice none 0 0))):=hid (HKC9.out.set_ 6 (.slice none 0 0));have HBN:Hid (Ob p5 w5 (w9.setCell ⟨p5,6,none⟩ (.slice none 0 0))):=hid (HB9.out.set 6 _);go_wp2;go_roundw
            case rel=>exact⟨k+1,_,none,0,HLT.out,(by first | rfl | (rw[hwk];rfl)),HBN,HKN,HN⟩
            case measure=>(try rw[hwk]);exact meas_step5b HLT.out
           | true=>
            by_cases h0:bX=0
            ·have d0:(bX != 0)=false:=by rw[h0];rfl
             by_cases h1:bY=0
             ·have d1:(bY != 0)=false:=by rw[h1];rfl
              have HH:Hid (homedB c.cells=true):=hid (by rw[HHD.out,decide_eq_false (by rw[h0];simp),decide_eq_false (by rw[h1];simp)];rfl);clear h0 h1;have HN:Hid (rgtTo (ss.drop (k+1)) c { rr with cells:=[] } = tot):=hid (by rw[← HT.out,HAT2.out,if_pos HH.out]);have fz:=HKC9.out.frozen 6;have cz:=HKC9.out.cell_ 6 _ rfl;have HKN:Hid (Blk (w9.setCell ⟨p5,6,none⟩ (.slice none 0 0)) p5 34 (cmdB { rr with cells:=[] } (.slice none 0 0))):=hid (HKC9.out.set_ 6 (.slice none 0 0));have HBN:Hid (Ob p5 w5 (w9.setCell ⟨p5,6,none⟩ (.slice none 0 0))):=hid (HB9.out.set 6 _);go_wp2;go_roundw
              case rel=>exact⟨k+1,_,none,0,HLT.out,(by first | rfl | (rw[hwk];rfl)),HBN,HKN,HN⟩
              case measure=>(try rw[hwk]);exact meas_step5b HLT.out
             ·have d1:(bY != 0)=true:=by simpa using h1
              have HH:Hid (homedB c.cells=false):=hid (by rw[HHD.out,decide_eq_true h1];simp);clear h0 h1;have HTN:Hid (tot=none):=hid (by rw[← HT.out,HAT2.out,if_neg (by rw[HH.out];exact Bool.false_ne_true)]);have HN:Hid (rb=false):=hid (by rw[HRB.out,HTN.out];rfl);go_wp2;go_ret;exact⟨ret_b56 HN.out.symm,HBW9.out⟩
            ·have d0:(bX != 0)=true:=by simpa using h0
             have HH:Hid (homedB c.cells=false):=hid (by rw[HHD.out,decide_eq_true h0];simp);clear h0;have HTN:Hid (tot=none):=hid (by rw[← HT.out,HAT2.out,if_neg (by rw[HH.out];exact Bool.false_ne_true)]);have HN:Hid (rb=false):=hid (by rw[HRB.out,HTN.out];rfl);go_wp2;go_ret;exact⟨ret_b56 HN.out.symm,HBW9.out⟩
         ·have e3:((s0.k:Int) == 3)=false:=beq_false_of_ne (by omega);rw[if_neg hk3] at hat;by_cases hk4:s0.k=4
          ·have e4:((s0.k:Int) == 4)=true:=by rw[hk4];rfl
           rw[if_pos hk4] at hat;have hfo:=HFO.out hk4;have HAT2:=hid hat;clear hn1 hk0 hk3 hk4 hat HAT;rcases hfo with hff | hff | hff | hff | hff | hff | hff
           ·have hfe:fn=.func 56:=by
             have h:=HFV.out;rw[hff] at h;injection h
            subst hfe;have HAT3:Hid (rgtTo (ss.drop k) c rr=if c.x < s0.lo∨s0.hi < c.x then none else rgtTo (ss.drop (k+1)) c (rr.set 1 0)):=hid (by have h:=HAT2.out;rw[hff] at h;exact h);clear hff HAT2;go_wp2_with (go_at_call 56;refine (fld1_any _ _).mono ?_;rintro e w8 ⟨rfl,hw⟩;rw[← hw];clear hw;refine Hid.out ?_);refine hid ?_;go_upto_region 23 with fail
            by_cases hr1:c.x < s0.lo
            ·have d1:decide (c.x < s0.lo)=true:=decide_eq_true hr1;have HTN:Hid (tot=none):=hid (by rw[← HT.out,HAT3.out,if_pos (.inl hr1)]);clear hr1;have HN:Hid (rb=false):=hid (by rw[HRB.out,HTN.out];rfl);go_wp2;go_ret;exact⟨ret_b56 HN.out.symm,HBW6.out⟩
            ·have d1:decide (c.x < s0.lo)=false:=decide_eq_false hr1;by_cases hr2:s0.hi < c.x
             ·have d2:decide (s0.hi < c.x)=true:=decide_eq_true hr2;have HTN:Hid (tot=none):=hid (by rw[← HT.out,HAT3.out,if_pos (.inr hr2)]);clear hr1 hr2;have HN:Hid (rb=false):=hid (by rw[HRB.out,HTN.out];rfl);go_wp2;go_ret;exact⟨ret_b56 HN.out.symm,HBW6.out⟩
             ·have d2:decide (s0.hi < c.x)=false:=decide_eq_false hr2;have HN:Hid (rgtTo (ss.drop (k+1)) c (rr.set 1 0)=tot):=hid (by rw[← HT.out,HAT3.out,if_neg (by rintro (h | h);exact hr1 h;exact hr2 h)]);have fz:=HKC6.out.frozen 1;have cz:=HKC6.out.cell_ 1 _ rfl;have HKN:Hid (Blk (w6.setCell ⟨p5,1,none⟩ (.int .i64 0)) p5 34 (cmdB (rr.set 1 0) (.slice A' rr.cells.length cap'))):=hid (HKC6.out.set_ 1 (.int .i64 0));have HBN:Hid (Ob p5 w5 (w6.setCell ⟨p5,1,none⟩ (.int .i64 0))):=hid (HB6.out.set 1 _);clear hr1 hr2;go_wp2_with (go_at_call 56;refine (fld1_any _ _).mono ?_;rintro e w8 ⟨rfl,hw⟩;rw[← hw];clear hw;refine Hid.out ?_);refine hid ?_;go_wp2;go_roundw
              case rel=>exact⟨k+1,_,A',cap',HLT.out,(by first | rfl | (rw[hwk];rfl)),HBN,HKN,HN⟩
              case measure=>(try rw[hwk]);exact meas_step5b HLT.out
           ·have hfe:fn=.func 57:=by
             have h:=HFV.out;rw[hff] at h;injection h
            subst hfe;have HAT3:Hid (rgtTo (ss.drop k) c rr=if c.y < s0.lo∨s0.hi < c.y then none else rgtTo (ss.drop (k+1)) c (rr.set 2 0)):=hid (by have h:=HAT2.out;rw[hff] at h;exact h);clear hff HAT2;go_wp2_with (go_at_call 57;refine (fld2_any _ _).mono ?_;rintro e w8 ⟨rfl,hw⟩;rw[← hw];clear hw;refine Hid.out ?_);refine hid ?_;go_upto_region 23 with fail
            by_cases hr1:c.y < s0.lo
            ·have d1:decide (c.y < s0.lo)=true:=decide_eq_true hr1;have HTN:Hid (tot=none):=hid (by rw[← HT.out,HAT3.out,if_pos (.inl hr1)]);clear hr1;have HN:Hid (rb=false):=hid (by rw[HRB.out,HTN.out];rfl);go_wp2;go_ret;exact⟨ret_b56 HN.out.symm,HBW6.out⟩
            ·have d1:decide (c.y < s0.lo)=false:=decide_eq_false hr1;by_cases hr2:s0.hi < c.y
             ·have d2:decide (s0.hi < c.y)=true:=decide_eq_true hr2;have HTN:Hid (tot=none):=hid (by rw[← HT.out,HAT3.out,if_pos (.inr hr2)]);clear hr1 hr2;have HN:Hid (rb=false):=hid (by rw[HRB.out,HTN.out];rfl);go_wp2;go_ret;exact⟨ret_b56 HN.out.symm,HBW6.out⟩
             ·have d2:decide (s0.hi < c.y)=false:=decide_eq_false hr2;have HN:Hid (rgtTo (ss.drop (k+1)) c (rr.set 2 0)=tot):=hid (by rw[← HT.out,HAT3.out,if_neg (by rintro (h | h);exact hr1 h;exact hr2 h)]);have fz:=HKC6.out.frozen 2;have cz:=HKC6.out.cell_ 2 _ rfl;have HKN:Hid (Blk (w6.setCell ⟨p5,2,none⟩ (.int .i64 0)) p5 34 (cmdB (rr.set 2 0) (.slice A' rr.cells.length cap'))):=hid (HKC6.out.set_ 2 (.int .i64 0));have HBN:Hid (Ob p5 w5 (w6.setCell ⟨p5,2,none⟩ (.int .i64 0))):=hid (HB6.out.set 2 _);clear hr1 hr2;go_wp2_with (go_at_call 57;refine (fld2_any _ _).mono ?_;rintro e w8 ⟨rfl,hw⟩;rw[← hw];clear hw;refine Hid.out ?_);refine hid ?_;go_wp2;go_roundw
              case rel=>exact⟨k+1,_,A',cap',HLT.out,(by first | rfl | (rw[hwk];rfl)),HBN,HKN,HN⟩
              case measure=>(try rw[hwk]);exact meas_step5b HLT.out
           ·have hfe:fn=.func 62:=by
             have h:=HFV.out;rw[hff] at h;injection h
            subst hfe;have HAT3:Hid (rgtTo (ss.drop k) c rr=if c.n < s0.lo∨s0.hi < c.n then none else rgtTo (ss.drop (k+1)) c (rr.set 3 0)):=hid (by have h:=HAT2.out;rw[hff] at h;exact h);clear hff HAT2;go_wp2_with (go_at_call 62;refine (fld3_any _ _).mono ?_;rintro e w8 ⟨rfl,hw⟩;rw[← hw];clear hw;refine Hid.out ?_);refine hid ?_;go_upto_region 23 with fail
            by_cases hr1:c.n < s0.lo
            ·have d1:decide (c.n < s0.lo)=true:=decide_eq_true hr1;have HTN:Hid (tot=none):=hid (by rw[← HT.out,HAT3.out,if_pos (.inl hr1)]);clear hr1;have HN:Hid (rb=false):=hid (by rw[HRB.out,HTN.out];rfl);go_wp2;go_ret;exact⟨ret_b56 HN.out.symm,HBW6.out⟩
            ·have d1:decide (c.n < s0.lo)=false:=decide_eq_false hr1;by_cases hr2:s0.hi < c.n
             ·have d2:decide (s0.hi < c.n)=true:=decide_eq_true hr2;have HTN:Hid (tot=none):=hid (by rw[← HT.out,HAT3.out,if_pos (.inr hr2)]);clear hr1 hr2;have HN:Hid (rb=false):=hid (by rw[HRB.out,HTN.out];rfl);go_wp2;go_ret;exact⟨ret_b56 HN.out.symm,HBW6.out⟩
             ·have d2:decide (s0.hi < c.n)=false:=decide_eq_false hr2;have HN:Hid (rgtTo (ss.drop (k+1)) c (rr.set 3 0)=tot):=hid (by rw[← HT.out,HAT3.out,if_neg (by rintro (h | h);exact hr1 h;exact hr2 h)]);have fz:=HKC6.out.frozen 3;have cz:=HKC6.out.cell_ 3 _ rfl;have HKN:Hid (Blk (w6.setCell ⟨p5,3,none⟩ (.int .i64 0)) p5 34 (cmdB (rr.set 3 0) (.slice A' rr.cells.length cap'))):=hid (HKC6.out.set_ 3 (.int .i64 0));have HBN:Hid (Ob p5 w5 (w6.setCell ⟨p5,3,none⟩ (.int .i64 0))):=hid (HB6.out.set 3 _);clear hr1 hr2;go_wp2_with (go_at_call 62;refine (fld3_any _ _).mono ?_;rintro e w8 ⟨rfl,hw⟩;rw[← hw];clear hw;refine Hid.out ?_);refine hid ?_;go_wp2;go_roundw
              case rel=>exact⟨k+1,_,A',cap',HLT.out,(by first | rfl | (rw[hwk];rfl)),HBN,HKN,HN⟩
              case measure=>(try rw[hwk]);exact meas_step5b HLT.out
           ·have hfe:fn=.func 63:=by
             have h:=HFV.out;rw[hff] at h;injection h
            subst hfe;have HAT3:Hid (rgtTo (ss.drop k) c rr=if c.m < s0.lo∨s0.hi < c.m then none else rgtTo (ss.drop (k+1)) c (rr.set 4 0)):=hid (by have h:=HAT2.out;rw[hff] at h;exact h);clear hff HAT2;go_wp2_with (go_at_call 63;refine (fld4_any _ _).mono ?_;rintro e w8 ⟨rfl,hw⟩;rw[← hw];clear hw;refine Hid.out ?_);refine hid ?_;go_upto_region 23 with fail
            by_cases hr1:c.m < s0.lo
            ·have d1:decide (c.m < s0.lo)=true:=decide_eq_true hr1;have HTN:Hid (tot=none):=hid (by rw[← HT.out,HAT3.out,if_pos (.inl hr1)]);clear hr1;have HN:Hid (rb=false):=hid (by rw[HRB.out,HTN.out];rfl);go_wp2;go_ret;exact⟨ret_b56 HN.out.symm,HBW6.out⟩
            ·have d1:decide (c.m < s0.lo)=false:=decide_eq_false hr1;by_cases hr2:s0.hi < c.m
             ·have d2:decide (s0.hi < c.m)=true:=decide_eq_true hr2;have HTN:Hid (tot=none):=hid (by rw[← HT.out,HAT3.out,if_pos (.inr hr2)]);clear hr1 hr2;have HN:Hid (rb=false):=hid (by rw[HRB.out,HTN.out];rfl);go_wp2;go_ret;exact⟨ret_b56 HN.out.symm,HBW6.out⟩
             ·have d2:decide (s0.hi < c.m)=false:=decide_eq_false hr2;have HN:Hid (rgtTo (ss.drop (k+1)) c (rr.set 4 0)=tot):=hid (by rw[← HT.out,HAT3.out,if_neg (by rintro (h | h);exact hr1 h;exact hr2 h)]);have fz:=HKC6.out.frozen 4;have cz:=HKC6.out.cell_ 4 _ rfl;have HKN:Hid (Blk (w6.setCell ⟨p5,4,none⟩ (.int .i64 0)) p5 34 (cmdB (rr.set 4 0) (.slice A' rr.cells.length cap'))):=hid (HKC6.out.set_ 4 (.int .i64 0));have HBN:Hid (Ob p5 w5 (w6.setCell ⟨p5,4,none⟩ (.int .i64 0))):=hid (HB6.out.set 4 _);clear hr1 hr2;go_wp2_with (go_at_call 63;refine (fld4_any _ _).mono ?_;rintro e w8 ⟨rfl,hw⟩;rw[← hw];clear hw;refine Hid.out ?_);refine hid ?_;go_wp2;go_roundw
              case rel=>exact⟨k+1,_,A',cap',HLT.out,(by first | rfl | (rw[hwk];rfl)),HBN,HKN,HN⟩
              case measure=>(try rw[hwk]);exact meas_step5b HLT.out
           ·have hfe:fn=.func 58:=by
             have h:=HFV.out;rw[hff] at h;injection h
            subst hfe;have HAT3:Hid (rgtTo (ss.drop k) c rr=if c.p < s0.lo∨s0.hi < c.p then none else rgtTo (ss.drop (k+1)) c (rr.set 7 0)):=hid (by have h:=HAT2.out;rw[hff] at h;exact h);clear hff HAT2;go_wp2_with (go_at_call 58;refine (fld7_any _ _).mono ?_;rintro e w8 ⟨rfl,hw⟩;rw[← hw];clear hw;refine Hid.out ?_);refine hid ?_;go_upto_region 23 with fail
            by_cases hr1:c.p < s0.lo
            ·have d1:decide (c.p < s0.lo)=true:=decide_eq_true hr1;have HTN:Hid (tot=none):=hid (by rw[← HT.out,HAT3.out,if_pos (.inl hr1)]);clear hr1;have HN:Hid (rb=false):=hid (by rw[HRB.out,HTN.out];rfl);go_wp2;go_ret;exact⟨ret_b56 HN.out.symm,HBW6.out⟩
            ·have d1:decide (c.p < s0.lo)=false:=decide_eq_false hr1;by_cases hr2:s0.hi < c.p
             ·have d2:decide (s0.hi < c.p)=true:=decide_eq_true hr2;have HTN:Hid (tot=none):=hid (by rw[← HT.out,HAT3.out,if_pos (.inr hr2)]);clear hr1 hr2;have HN:Hid (rb=false):=hid (by rw[HRB.out,HTN.out];rfl);go_wp2;go_ret;exact⟨ret_b56 HN.out.symm,HBW6.out⟩
             ·have d2:decide (s0.hi < c.p)=false:=decide_eq_false hr2;have HN:Hid (rgtTo (ss.drop (k+1)) c (rr.set 7 0)=tot):=hid (by rw[← HT.out,HAT3.out,if_neg (by rintro (h | h);exact hr1 h;exact hr2 h)]);have fz:=HKC6.out.frozen 7;have cz:=HKC6.out.cell_ 7 _ rfl;have HKN:Hid (Blk (w6.setCell ⟨p5,7,none⟩ (.int .i64 0)) p5 34 (cmdB (rr.set 7 0) (.slice A' rr.cells.length cap'))):=hid (HKC6.out.set_ 7 (.int .i64 0));have HBN:Hid (Ob p5 w5 (w6.setCell ⟨p5,7,none⟩ (.int .i64 0))):=hid (HB6.out.set 7 _);clear hr1 hr2;go_wp2_with (go_at_call 58;refine (fld7_any _ _).mono ?_;rintro e w8 ⟨rfl,hw⟩;rw[← hw];clear hw;refine Hid.out ?_);refine hid ?_;go_wp2;go_roundw
              case rel=>exact⟨k+1,_,A',cap',HLT.out,(by first | rfl | (rw[hwk];rfl)),HBN,HKN,HN⟩
              case measure=>(try rw[hwk]);exact meas_step5b HLT.out
           ·have hfe:fn=.func 59:=by
             have h:=HFV.out;rw[hff] at h;injection h
            subst hfe;have HAT3:Hid (rgtTo (ss.drop k) c rr=if c.dx < s0.lo∨s0.hi < c.dx then none else rgtTo (ss.drop (k+1)) c (rr.set 8 0)):=hid (by have h:=HAT2.out;rw[hff] at h;exact h);clear hff HAT2;go_wp2_with (go_at_call 59;refine (fld8_any _ _).mono ?_;rintro e w8 ⟨rfl,hw⟩;rw[← hw];clear hw;refine Hid.out ?_);refine hid ?_;go_upto_region 23 with fail
            by_cases hr1:c.dx < s0.lo
            ·have d1:decide (c.dx < s0.lo)=true:=decide_eq_true hr1;have HTN:Hid (tot=none):=hid (by rw[← HT.out,HAT3.out,if_pos (.inl hr1)]);clear hr1;have HN:Hid (rb=false):=hid (by rw[HRB.out,HTN.out];rfl);go_wp2;go_ret;exact⟨ret_b56 HN.out.symm,HBW6.out⟩
            ·have d1:decide (c.dx < s0.lo)=false:=decide_eq_false hr1;by_cases hr2:s0.hi < c.dx
             ·have d2:decide (s0.hi < c.dx)=true:=decide_eq_true hr2;have HTN:Hid (tot=none):=hid (by rw[← HT.out,HAT3.out,if_pos (.inr hr2)]);clear hr1 hr2;have HN:Hid (rb=false):=hid (by rw[HRB.out,HTN.out];rfl);go_wp2;go_ret;exact⟨ret_b56 HN.out.symm,HBW6.out⟩
             ·have d2:decide (s0.hi < c.dx)=false:=decide_eq_false hr2;have HN:Hid (rgtTo (ss.drop (k+1)) c (rr.set 8 0)=tot):=hid (by rw[← HT.out,HAT3.out,if_neg (by rintro (h | h);exact hr1 h;exact hr2 h)]);have fz:=HKC6.out.frozen 8;have cz:=HKC6.out.cell_ 8 _ rfl;have HKN:Hid (Blk (w6.setCell ⟨p5,8,none⟩ (.int .i64 0)) p5 34 (cmdB (rr.set 8 0) (.slice A' rr.cells.length cap'))):=hid (HKC6.out.set_ 8 (.int .i64 0));have HBN:Hid (Ob p5 w5 (w6.setCell ⟨p5,8,none⟩ (.int .i64 0))):=hid (HB6.out.set 8 _);clear hr1 hr2;go_wp2_with (go_at_call 59;refine (fld8_any _ _).mono ?_;rintro e w8 ⟨rfl,hw⟩;rw[← hw];clear hw;refine Hid.out ?_);refine hid ?_;go_wp2;go_roundw
              case rel=>exact⟨k+1,_,A',cap',HLT.out,(by first | rfl | (rw[hwk];rfl)),HBN,HKN,HN⟩
              case measure=>(try rw[hwk]);exact meas_step5b HLT.out
           ·have hfe:fn=.func 60:=by
             have h:=HFV.out;rw[hff] at h;injection h
            subst hfe;have HAT3:Hid (rgtTo (ss.drop k) c rr=if c.dy < s0.lo∨s0.hi < c.dy then none else rgtTo (ss.drop (k+1)) c (rr.set 9 0)):=hid (by have h:=HAT2.out;rw[hff] at h;exact h);clear hff HAT2;go_wp2_with (go_at_call 60;refine (fld9_any _ _).mono ?_;rintro e w8 ⟨rfl,hw⟩;rw[← hw];clear hw;refine Hid.out ?_);refine hid ?_;go_upto_region 23 with fail
            by_cases hr1:c.dy < s0.lo
            ·have d1:decide (c.dy < s0.lo)=true:=decide_eq_true hr1;have HTN:Hid (tot=none):=hid (by rw[← HT.out,HAT3.out,if_pos (.inl hr1)]);clear hr1;have HN:Hid (rb=false):=hid (by rw[HRB.out,HTN.out];rfl);go_wp2;go_ret;exact⟨ret_b56 HN.out.symm,HBW6.out⟩
            ·have d1:decide (c.dy < s0.lo)=false:=decide_eq_false hr1;by_cases hr2:s0.hi < c.dy
             ·have d2:decide (s0.hi < c.dy)=true:=decide_eq_true hr2;have HTN:Hid (tot=none):=hid (by rw[← HT.out,HAT3.out,if_pos (.inr hr2)]);clear hr1 hr2;have HN:Hid (rb=false):=hid (by rw[HRB.out,HTN.out];rfl);go_wp2;go_ret;exact⟨ret_b56 HN.out.symm,HBW6.out⟩
             ·have d2:decide (s0.hi < c.dy)=false:=decide_eq_false hr2;have HN:Hid (rgtTo (ss.drop (k+1)) c (rr.set 9 0)=tot):=hid (by rw[← HT.out,HAT3.out,if_neg (by rintro (h | h);exact hr1 h;exact hr2 h)]);have fz:=HKC6.out.frozen 9;have cz:=HKC6.out.cell_ 9 _ rfl;have HKN:Hid (Blk (w6.setCell ⟨p5,9,none⟩ (.int .i64 0)) p5 34 (cmdB (rr.set 9 0) (.slice A' rr.cells.length cap'))):=hid (HKC6.out.set_ 9 (.int .i64 0));have HBN:Hid (Ob p5 w5 (w6.setCell ⟨p5,9,none⟩ (.int .i64 0))):=hid (HB6.out.set 9 _);clear hr1 hr2;go_wp2_with (go_at_call 60;refine (fld9_any _ _).mono ?_;rintro e w8 ⟨rfl,hw⟩;rw[← hw];clear hw;refine Hid.out ?_);refine hid ?_;go_wp2;go_roundw
              case rel=>exact⟨k+1,_,A',cap',HLT.out,(by first | rfl | (rw[hwk];rfl)),HBN,HKN,HN⟩
              case measure=>(try rw[hwk]);exact meas_step5b HLT.out
          ·have e4:((s0.k:Int) == 4)=false:=beq_false_of_ne (by omega);rw[if_neg hk4] at hat;have HN:Hid (rgtTo (ss.drop (k+1)) c rr=tot):=hid (by rw[← HT.out,hat]);have HKN:=HKC6;clear hn1 hk0 hk3 hk4 hat HAT;go_wp2;go_roundw
           case rel=>exact⟨k+1,_,A',cap',HLT.out,(by first | rfl | (rw[hwk];rfl)),HB6,HKN,HN⟩
           case measure=>(try rw[hwk]);exact meas_step5b HLT.out
     ·have hek:k=ss.length:=by omega
      have HEM:Hid (rb=emptyC rr):=hid (by rw[HRB.out,← HT.out,hek,List.drop_length,rgtTo_end];rfl);have dk:decide ((k:Int) < ss.length)=false:=decide_eq_false (by omega);have hnlt:¬ k < ss.length:=hlt;have dn:=str_nil56 (nmV rr);rw[nmV_data] at dn;clear hek hlt HT;have z1:wr.cell? ⟨p5,1,none⟩=some (.int .i64 rr.x):=HKC.out.cell_ 1 _ rfl;have z2:wr.cell? ⟨p5,2,none⟩=some (.int .i64 rr.y):=HKC.out.cell_ 2 _ rfl;have z3:wr.cell? ⟨p5,3,none⟩=some (.int .i64 rr.n):=HKC.out.cell_ 3 _ rfl;have z4:wr.cell? ⟨p5,4,none⟩=some (.int .i64 rr.m):=HKC.out.cell_ 4 _ rfl;have z5:wr.cell? ⟨p5,5,none⟩=some (.string (nmV rr)):=HKC.out.cell_ 5 _ rfl;have z6:wr.cell? ⟨p5,6,none⟩=some (.slice A' rr.cells.length cap'):=HKC.out.cell_ 6 _ rfl;have z7:wr.cell? ⟨p5,7,none⟩=some (.int .i64 rr.p):=HKC.out.cell_ 7 _ rfl;have z8:wr.cell? ⟨p5,8,none⟩=some (.int .i64 rr.dx):=HKC.out.cell_ 8 _ rfl;have z9:wr.cell? ⟨p5,9,none⟩=some (.int .i64 rr.dy):=HKC.out.cell_ 9 _ rfl;go_upto_region 27 with fail
      clear hnlt dk;by_cases h_x:rr.x=0
      ·have d_x:((rr.x:Int) == 0)=true:=by rw[h_x];rfl
       by_cases h_y:rr.y=0
       ·have d_y:((rr.y:Int) == 0)=true:=by rw[h_y];rfl
        by_cases h_n:rr.n=0
        ·have d_n:((rr.n:Int) == 0)=true:=by rw[h_n];rfl
         by_cases h_m:rr.m=0
         ·have d_m:((rr.m:Int) == 0)=true:=by rw[h_m];rfl
          by_cases h_nm:rr.name=[]
          ·rw[decide_eq_true h_nm] at dn;by_cases h_cl:rr.cells=[]
           ·have d_cl:((rr.cells.length:Int) == 0)=true:=by rw[h_cl];rfl
            by_cases h_p:rr.p=0
            ·have d_p:((rr.p:Int) == 0)=true:=by rw[h_p];rfl
             by_cases h_dx:rr.dx=0
             ·have d_dx:((rr.dx:Int) == 0)=true:=by rw[h_dx];rfl
              by_cases h_dy:rr.dy=0
              ·have d_dy:((rr.dy:Int) == 0)=true:=by rw[h_dy];rfl
               have HE2:Hid (rb=true):=hid (by rw[HEM.out];unfold emptyC;rw[decide_eq_true h_x,decide_eq_true h_y,decide_eq_true h_n,decide_eq_true h_m,decide_eq_true h_nm,decide_eq_true h_cl,decide_eq_true h_p,decide_eq_true h_dx,decide_eq_true h_dy];rfl);clear h_x h_y h_n h_m h_nm h_cl h_p h_dx h_dy;go_wp2;go_ret;exact⟨ret_b56 HE2.out.symm,HBW.out⟩
              ·have d_dy:((rr.dy:Int) == 0)=false:=by exact beq_false_of_ne h_dy
               have HE2:Hid (rb=false):=hid (by rw[HEM.out];unfold emptyC;rw[decide_eq_false h_dy];simp);clear h_x h_y h_n h_m h_nm h_cl h_p h_dx h_dy;go_wp2;go_ret;exact⟨ret_b56 HE2.out.symm,HBW.out⟩
             ·have d_dx:((rr.dx:Int) == 0)=false:=by exact beq_false_of_ne h_dx
              have HE2:Hid (rb=false):=hid (by rw[HEM.out];unfold emptyC;rw[decide_eq_false h_dx];simp);clear h_x h_y h_n h_m h_nm h_cl h_p h_dx;go_wp2;go_ret;exact⟨ret_b56 HE2.out.symm,HBW.out⟩
            ·have d_p:((rr.p:Int) == 0)=false:=by exact beq_false_of_ne h_p
             have HE2:Hid (rb=false):=hid (by rw[HEM.out];unfold emptyC;rw[decide_eq_false h_p];simp);clear h_x h_y h_n h_m h_nm h_cl h_p;go_wp2;go_ret;exact⟨ret_b56 HE2.out.symm,HBW.out⟩
           ·have d_cl:((rr.cells.length:Int) == 0)=false:=by exact beq_false_of_ne (fun e=>h_cl (List.length_eq_zero_iff.1 (by omega)))
            have HE2:Hid (rb=false):=hid (by rw[HEM.out];unfold emptyC;rw[decide_eq_false h_cl];simp);clear h_x h_y h_n h_m h_nm h_cl;go_wp2;go_ret;exact⟨ret_b56 HE2.out.symm,HBW.out⟩
          ·rw[decide_eq_false h_nm] at dn;have HE2:Hid (rb=false):=hid (by rw[HEM.out];unfold emptyC;rw[decide_eq_false h_nm];simp);clear h_x h_y h_n h_m h_nm;go_wp2;go_ret;exact⟨ret_b56 HE2.out.symm,HBW.out⟩
         ·have d_m:((rr.m:Int) == 0)=false:=by exact beq_false_of_ne h_m
          have HE2:Hid (rb=false):=hid (by rw[HEM.out];unfold emptyC;rw[decide_eq_false h_m];simp);clear h_x h_y h_n h_m;go_wp2;go_ret;exact⟨ret_b56 HE2.out.symm,HBW.out⟩
        ·have d_n:((rr.n:Int) == 0)=false:=by exact beq_false_of_ne h_n
         have HE2:Hid (rb=false):=hid (by rw[HEM.out];unfold emptyC;rw[decide_eq_false h_n];simp);clear h_x h_y h_n;go_wp2;go_ret;exact⟨ret_b56 HE2.out.symm,HBW.out⟩
       ·have d_y:((rr.y:Int) == 0)=false:=by exact beq_false_of_ne h_y
        have HE2:Hid (rb=false):=hid (by rw[HEM.out];unfold emptyC;rw[decide_eq_false h_y];simp);clear h_x h_y;go_wp2;go_ret;exact⟨ret_b56 HE2.out.symm,HBW.out⟩
      ·have d_x:((rr.x:Int) == 0)=false:=by exact beq_false_of_ne h_x
       have HE2:Hid (rb=false):=hid (by rw[HEM.out];unfold emptyC;rw[decide_eq_false h_x];simp);clear h_x;go_wp2;go_ret;exact⟨ret_b56 HE2.out.symm,HBW.out⟩
   ·have dk:((ff.kind:Int) != c.kind)=true:=by simpa using hkd
    have HN:Hid ((fs.drop (k+1)).find? (fun f=>decide (f.kind=c.kind))=kf):=hid (by rw[← HT.out,HSTEP.out,if_neg (by rw[decide_eq_false hkd];exact Bool.false_ne_true)]);clear hkd;go_wp2;go_roundw
    case rel=>exact⟨k+1,HLT.out,(by first | rfl | (rw[hwk];rfl)),HB3,HN⟩
    case measure=>(try rw[hwk]);exact meas_step5b HLT.out
  ·have dk:decide ((k:Int) < fs.length)=false:=decide_eq_false (by omega);have hnlt:¬ k < fs.length:=hlt;have HKN:Hid (kf=none):=hid (by rw[← HT.out,List.drop_eq_nil_of_le (by omega)];rfl);have HN:Hid (rb=false):=hid (by rw[HRK.out,HKN.out];rfl);clear hlt;go_wp2;go_ret;exact⟨ret_b56 HN.out.symm,HBW.out⟩
end Go.Proofs.YtcfelnhmifkelaaGreatDoor
