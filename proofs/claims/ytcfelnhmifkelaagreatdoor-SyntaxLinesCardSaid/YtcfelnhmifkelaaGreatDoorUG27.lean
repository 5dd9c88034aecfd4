/-
  texts Rlin56 Law156 OpenC OpenK56: parts of the proof; conditions stand with each theorem.
-/
import Derived.Test.YtcfelnhmifkelaaGreatDoorURrgt56
import Derived.Test.YtcfelnhmifkelaaGreatDoorULine56
import Derived.Test.YtcfelnhmifkelaaGreatDoorUG26
namespace Go.Proofs.YtcfelnhmifkelaaGreatDoor
open Lib(hid)
open Go.RowKit
set_option maxRecDepth 100000
set_option linter.unusedVariables false
set_option linter.unusedSimpArgs false
theorem form_word20:∀ k ∈ kinds12,∀ f ∈ formR k,f.length≤20:=by decide
theorem form_num:∀ k ∈ kinds12,∀ f ∈ formR k,(slotR f).k=4→-1048576≤(slotR f).lo∧(slotR f).hi≤1048576:=by decide
theorem rlineTo_at {fs:List (List UInt8)} {k:Nat}(h1:k < fs.length)(c:Cmd)(b:Bool)(s:List UInt8):rlineTo (fs.drop k) c b s=if badRun fs[k] c=true then ([],(textL c.cells [82]).2) else rlineTo (fs.drop (k+1)) c true ((if b then s ++ [32] else s) ++ wordR fs[k] c):=by
 conv=>lhs;rw[List.drop_eq_getElem_cons h1]
 rfl
theorem rlineTo_end (c:Cmd)(b:Bool)(s:List UInt8):rlineTo [] c b s=(s,0):=by unfold rlineTo;rfl
theorem rgt_words {c:Cmd}(h:rightP c=true):∀ f ∈ formR c.kind,(slotR f).k=4→-1048576≤c.get (slotR f).fld∧c.get (slotR f).fld≤1048576:=by
 intro f hf h4;rcases kind_in c.kind with ⟨hk,h2⟩ | ⟨h1,-⟩
 ·unfold rightP at h;rw[h2] at h;dsimp only at h;cases hr:rgtTo (formK c.kind).slots c { c with kind:=0 } with
  | none=>rw[hr] at h;cases h
  | some r'=>
   obtain⟨g,gs,e,k0,-⟩:=form_shape hk;have hs:slotR f ∈ (formK c.kind).slots:=by
    have e2:(formK c.kind).slots=gs.map slotR:=by unfold formK;rw[e];rfl
    rw[e2];rw[e] at hf;rcases List.mem_cons.1 hf with rfl | hf
    ·omega
    ·exact List.mem_map_of_mem hf
   have h3:=rgt_num _ _ _ _ hr _ hs h4;have h5:=form_num c.kind hk f hf h4;omega
 ·rw[h1] at hf;cases hf
set_option maxHeartbeats 32000000 in
theorem rlin56_any (c:Cmd)(A:Option Addr)(cap:Nat)(w:World)(hc:Cls w A c.cells)(hn:c.name.length≤65536) :
  Calls Tryz.prog 15 #[cmdV c (nmV c) (.slice A c.cells.length cap)] w fun e w'=>e=.returned (.tuple #[.string ⟨(lineP c).1.toArray⟩,.int .i64 (lineP c).2])∧Below w.heap.size w w':=by
 rw[← rline_eq];obtain⟨rr,hrr⟩:∃ r,r=rlineP c:=⟨_,rfl⟩
 rw[← hrr];have HRR:=hid hrr;have HCL:=hid hc;have HNL:=hid hn;clear hrr hc hn;obtain⟨w1,hw1⟩:∃ W,W=w.alloc (.cells #[.int .i64 c.kind,.int .i64 c.x,.int .i64 c.y,.int .i64 c.n,.int .i64 c.m,.string (nmV c),.slice A c.cells.length cap,.int .i64 c.p,.int .i64 c.dx,.int .i64 c.dy] 34):=⟨_,rfl⟩
 have hk1:Blk w1 w.heap.size 34 #[.int .i64 c.kind,.int .i64 c.x,.int .i64 c.y,.int .i64 c.n,.int .i64 c.m,.string (nmV c),.slice A c.cells.length cap,.int .i64 c.p,.int .i64 c.dx,.int .i64 c.dy]:=by rw[hw1];exact Blk.new _ _ _
 have hb1:Below w.heap.size w w1:=by rw[hw1];exact below_new _ _
 have hrg:=rrgt56_any c A cap w1 (HCL.out.ext hb1) (by have:=HNL.out;omega);unfold cmdV at hrg ⊢;have HRG:=hid hrg;have HK1:=hid hk1;have HB1:=hid hb1;clear hrg hk1 hb1;have x0:w1.cell? ⟨w.heap.size,0,none⟩=some (.int .i64 c.kind):=HK1.out.cell_ 0 _ rfl;have x1:w1.cell? ⟨w.heap.size,1,none⟩=some (.int .i64 c.x):=HK1.out.cell_ 1 _ rfl;have x2:w1.cell? ⟨w.heap.size,2,none⟩=some (.int .i64 c.y):=HK1.out.cell_ 2 _ rfl;have x3:w1.cell? ⟨w.heap.size,3,none⟩=some (.int .i64 c.n):=HK1.out.cell_ 3 _ rfl;have x4:w1.cell? ⟨w.heap.size,4,none⟩=some (.int .i64 c.m):=HK1.out.cell_ 4 _ rfl;have x5:w1.cell? ⟨w.heap.size,5,none⟩=some (.string (nmV c)):=HK1.out.cell_ 5 _ rfl;have x6:w1.cell? ⟨w.heap.size,6,none⟩=some (.slice A c.cells.length cap):=HK1.out.cell_ 6 _ rfl;have x7:w1.cell? ⟨w.heap.size,7,none⟩=some (.int .i64 c.p):=HK1.out.cell_ 7 _ rfl;have x8:w1.cell? ⟨w.heap.size,8,none⟩=some (.int .i64 c.dx):=HK1.out.cell_ 8 _ rfl;have x9:w1.cell? ⟨w.heap.size,9,none⟩=some (.int .i64 c.dy):=HK1.out.cell_ 9 _ rfl;go_enter Tryz.func15,Tryz.ntmps15;go_upto_region 1 with fail
 rw[← hw1];clear hw1;go_wp2_with (go_at_call 17;refine HRG.out.mono ?_;intro e w2 hx;obtain⟨rfl,hb2⟩:=hx;refine Hid.out ?_);refine hid ?_;have HB2:=hid (HB1.out.trans (hb2.mono HB1.out.size));have HK2:=hid (HK1.out.below hb2 HK1.out.lt);clear hb2 HRG HB1 HK1;clear x0 x1 x2 x3 x4 x5 x6 x7 x8 x9;obtain⟨rb,hrb⟩:∃ b,b=rightP c:=⟨_,rfl⟩
 rw[← hrb];cases rb with
 | false=>
  have HN:Hid (rr=([],2)):=hid (by rw[HRR.out];unfold rlineP;rw[if_pos hrb.symm]);clear hrb;go_wp2;go_ret2;exact⟨ret_se HN.out,HB2.out⟩
 | true=>
  have HRT:Hid (rlineTo (formR c.kind) c false []=rr):=hid (by rw[HRR.out];unfold rlineP;rw[← hrb,if_neg (by simp)]);have HNW:=hid (rgt_words hrb.symm);have HRP:Hid (rightP c=true):=hid hrb.symm;clear hrb HRR;have HF:=hid (rform_any c.kind w2);have x0:w2.cell? ⟨w.heap.size,0,none⟩=some (.int .i64 c.kind):=HK2.out.cell_ 0 _ rfl;go_wp2_with (go_at_call 37;refine HF.out.mono ?_;rintro e w3 ⟨FA,fc,rfl,hfs,hfn,hb3⟩;refine Hid.out ?_);refine hid ?_;have HK3:=hid (HK2.out.below hb3 HK2.out.lt);have HB3:=hid (HB2.out.trans (hb3.mono HB2.out.size));clear x0 HF hb3 HK2 HB2 hfn;obtain⟨fs,hf⟩:∃ x,x=formR c.kind:=⟨_,rfl⟩
  rw[← hf] at HRT hfs ⊢;have HFF:=hid hf;obtain⟨fb,hfb⟩:∃ x,x=baL fs:=⟨_,rfl⟩
  rw[← hfb] at hfs ⊢;have HFB:=hid hfb;have HFL:Hid (fb.length=fs.length):=hid (by rw[hfb,baL_len]);have HFS:=hid hfs;have HKM:Hid (c.kind ∈ kinds12):=hid (by
   rcases kind_in c.kind with ⟨h,-⟩ | ⟨-,h⟩
   ·exact h
   ·have h2:=HRP.out;unfold rightP at h2;rw[h] at h2;cases h2)
  have HF9:Hid (fs.length≤9):=hid (by rw[hf];exact few_words HKM.out);clear hfs hfb hf HRP;go_wp2;go_loopw [5,6] (fun sv iv wr=>∃ (k:Nat) (sb:ByteArray),k≤fb.length∧sv=.string sb∧iv=.int .i64 k∧Hid (Below w3.heap.size w3 wr)∧Hid (sb.size≤k*70000)∧Hid (rlineTo (fs.drop k) c (decide (0 < k)) sb.data.toList=rr)) (fun _ iv _=>fb.length - (intOf iv).toNat)
  case atStart=>exact⟨0,⟨#[]⟩,Nat.zero_le _,rfl,rfl,hid (Below.refl _ _),hid (Nat.le_refl _),HRT⟩
  case round=>
   obtain⟨k,sb,hk,rfl,rfl,HBq,HSZ,HT⟩:=hrel;have hwk:wrap64 ((k:Int)+1)=(k:Int)+1:=by have:=HFL.out;have:=HF9.out;unfold wrap64;omega
   have HBW:=hid (HB3.out.trans (HBq.out.mono HB3.out.size));have HKP:=hid (HK3.out.below HBq.out HK3.out.lt);by_cases hlt:k < fb.length
   ·have hkf:k < fs.length:=by have:=HFL.out;omega
    obtain⟨fbb,fbo,rfl,hfl,cf⟩:=(HFS.out.ext HBq.out).at_ hlt;have hzf:(fb[k]'hlt)=⟨(fs[k]'hkf).toArray⟩:=by have:=HFB.out;subst this;exact baL_at hlt hkf
    have hwf:=word_facts c.kind HKM.out (fs[k]'hkf) (by rw[← HFF.out];exact List.getElem_mem hkf);have hat:=rlineTo_at hkf c (decide (0 < k)) sb.data.toList;obtain⟨f,hf⟩:∃ f,f=fs[k]'hkf:=⟨_,rfl⟩
    rw[← hf] at hzf hwf hat;have HNM:Hid (f ∈ formR c.kind):=hid (by rw[hf,← HFF.out];exact List.getElem_mem hkf);have HF9k:Hid (k*70000≤700000):=hid (by have:=HF9.out;have:k*70000≤9*70000:=Nat.mul_le_mul_right _ (by omega);omega);obtain⟨z,hz⟩:∃ z,z=fb[k]'hlt:=⟨_,rfl⟩
    rw[← hz] at cf hzf;have HAT:=hid hat;have HLT:=hid hlt;have HWF:=hid hwf;have HZF:=hid hzf;have hzl:z.data.toList=f:=by rw[hzf]
    have HZL:=hid hzl;have dz82:=str_eq56 z [82];have dz78:=str_eq56 z [78];have dz67:=str_eq56 z [67];rw[hzl] at dz82 dz78 dz67;have hz0:0 < z.size:=by have:=HWF.out.2.1;rw[HZF.out];show 0 < f.toArray.size;simpa using this
    obtain⟨nb,hnb⟩:∃ b,b=nmcB f:=⟨_,rfl⟩
    have HNU:Hid (Calls Tryz.prog 39 #[.string z] wr fun e w'=>e=.returned (.bool nb)∧wr=w'):=hid (by
     have h:=numeric_any z wr hz0;rw[hzl,← hnb] at h;exact h)
    have HNBB:=hid hnb;have HF20:Hid (f.length≤20):=hid (form_word20 c.kind HKM.out f HNM.out);clear hf hz hat hwf hzf hzl hz0 hnb hkf;by_cases h82:f=[82]
    ·rw[decide_eq_true h82] at dz82;rw[decide_eq_false (by rw[h82];decide)] at dz78 dz67;have hk0':(slotR f).k=1:=of_decide_eq_true (by rw[HWF.out.2.2.1];exact decide_eq_true h82);have HNB:Hid (¬ badRun f c=true):=hid (by unfold badRun;rw[hk0'];simp);have x5:wr.cell? ⟨w.heap.size,5,none⟩=some (.string (nmV c)):=HKP.out.cell_ 5 _ rfl;have HY:Hid ((nmV c).data.toList=wordR f c):=hid (by rw[nmV_data];unfold wordR;rw[hk0'];rfl);have HYS:Hid ((nmV c).size≤65536):=hid (by rw[Lib.size_eq,nmV_data];exact HNL.out);obtain⟨y,hy⟩:∃ y,y=nmV c:=⟨_,rfl⟩
     rw[← hy] at x5 HY HYS;clear h82 hk0' hy;by_cases hk0:0 < k
     ·have dk0:decide ((0:Int) < (k:Int))=true:=decide_eq_true (by omega);have hm1:¬ 9223372036854775807 < sb.size+1:=by have:=HSZ.out;have:=HF9k.out;omega
      obtain⟨sb2,hsb2⟩:∃ b:ByteArray,b=sb ++ ⟨#[32]⟩:=⟨_,rfl⟩
      have hz2:sb2.size=sb.size+1:=by rw[hsb2,ByteArray.size_append];rfl
      have hl2:sb2.data.toList=sb.data.toList ++ [32]:=by rw[hsb2,ByteArray.data_append,Array.toList_append]
      have hm2:¬ 9223372036854775807 < sb2.size+y.size:=by have:=HSZ.out;have:=HF9k.out;have:=HYS.out;omega
      have HN:Hid (rlineTo (fs.drop (k+1)) c (decide (0 < k+1)) (sb2 ++ y).data.toList=rr):=hid (by
       rw[ByteArray.data_append,Array.toList_append,hl2,HY.out,decide_eq_true (Nat.succ_pos k),← HT.out,HAT.out,if_neg HNB.out,decide_eq_true hk0];rfl)
      have HSZ2:Hid ((sb2 ++ y).size≤(k+1)*70000):=hid (by rw[ByteArray.size_append,Nat.succ_mul];have:=HSZ.out;have:=HYS.out;omega);have HS2:=hid hsb2;clear hsb2 hz2 hl2;go_upto_region 20 with fail
      rw[← HS2.out];go_wp2;go_roundw
      case rel=>exact⟨k+1,_,HLT.out,rfl,(by first | rfl | (rw[hwk];rfl)),HBq,HSZ2,HN⟩
      case measure=>(try rw[hwk]);exact meas_step5b HLT.out
     ·have dk0:decide ((0:Int) < (k:Int))=false:=decide_eq_false (by omega);have hm2:¬ 9223372036854775807 < sb.size+y.size:=by have:=HSZ.out;have:=HF9k.out;have:=HYS.out;omega
      have HN:Hid (rlineTo (fs.drop (k+1)) c (decide (0 < k+1)) (sb ++ y).data.toList=rr):=hid (by
       rw[ByteArray.data_append,Array.toList_append,HY.out,decide_eq_true (Nat.succ_pos k),← HT.out,HAT.out,if_neg HNB.out,decide_eq_false hk0];rfl)
      have HSZ2:Hid ((sb ++ y).size≤(k+1)*70000):=hid (by rw[ByteArray.size_append,Nat.succ_mul];have:=HSZ.out;have:=HYS.out;omega);go_wp2;go_roundw
      case rel=>exact⟨k+1,_,HLT.out,rfl,(by first | rfl | (rw[hwk];rfl)),HBq,HSZ2,HN⟩
      case measure=>(try rw[hwk]);exact meas_step5b HLT.out
    rw[decide_eq_false h82] at dz82;have hk1:(slotR f).k≠1:=by have:=HWF.out.2.2.1;rw[decide_eq_false h82] at this;exact of_decide_eq_false this
    by_cases h78:f=[78]
    ·rw[decide_eq_true h78] at dz78;rw[decide_eq_false (by rw[h78];decide)] at dz67;clear h82 hk1;have hk0':(slotR f).k=2:=of_decide_eq_true (by rw[HWF.out.2.2.2.1];exact decide_eq_true h78);have HNB:Hid (¬ badRun f c=true):=hid (by unfold badRun;rw[hk0'];simp);have x5:wr.cell? ⟨w.heap.size,5,none⟩=some (.string (nmV c)):=HKP.out.cell_ 5 _ rfl;have HY:Hid ((nmV c).data.toList=wordR f c):=hid (by rw[nmV_data];unfold wordR;rw[hk0'];rfl);have HYS:Hid ((nmV c).size≤65536):=hid (by rw[Lib.size_eq,nmV_data];exact HNL.out);obtain⟨y,hy⟩:∃ y,y=nmV c:=⟨_,rfl⟩
     rw[← hy] at x5 HY HYS;clear h78 hk0' hy;by_cases hk0:0 < k
     ·have dk0:decide ((0:Int) < (k:Int))=true:=decide_eq_true (by omega);have hm1:¬ 9223372036854775807 < sb.size+1:=by have:=HSZ.out;have:=HF9k.out;omega
      obtain⟨sb2,hsb2⟩:∃ b:ByteArray,b=sb ++ ⟨#[32]⟩:=⟨_,rfl⟩
      have hz2:sb2.size=sb.size+1:=by rw[hsb2,ByteArray.size_append];rfl
      have hl2:sb2.data.toList=sb.data.toList ++ [32]:=by rw[hsb2,ByteArray.data_append,Array.toList_append]
      have hm2:¬ 9223372036854775807 < sb2.size+y.size:=by have:=HSZ.out;have:=HF9k.out;have:=HYS.out;omega
      have HN:Hid (rlineTo (fs.drop (k+1)) c (decide (0 < k+1)) (sb2 ++ y).data.toList=rr):=hid (by
       rw[ByteArray.data_append,Array.toList_append,hl2,HY.out,decide_eq_true (Nat.succ_pos k),← HT.out,HAT.out,if_neg HNB.out,decide_eq_true hk0];rfl)
      have HSZ2:Hid ((sb2 ++ y).size≤(k+1)*70000):=hid (by rw[ByteArray.size_append,Nat.succ_mul];have:=HSZ.out;have:=HYS.out;omega);have HS2:=hid hsb2;clear hsb2 hz2 hl2;go_upto_region 20 with fail
      rw[← HS2.out];go_wp2;go_roundw
      case rel=>exact⟨k+1,_,HLT.out,rfl,(by first | rfl | (rw[hwk];rfl)),HBq,HSZ2,HN⟩
      case measure=>(try rw[hwk]);exact meas_step5b HLT.out
     ·have dk0:decide ((0:Int) < (k:Int))=false:=decide_eq_false (by omega);have hm2:¬ 9223372036854775807 < sb.size+y.size:=by have:=HSZ.out;have:=HF9k.out;have:=HYS.out;omega
      have HN:Hid (rlineTo (fs.drop (k+1)) c (decide (0 < k+1)) (sb ++ y).data.toList=rr):=hid (by
       rw[ByteArray.data_append,Array.toList_append,HY.out,decide_eq_true (Nat.succ_pos k),← HT.out,HAT.out,if_neg HNB.out,decide_eq_false hk0];rfl)
      have HSZ2:Hid ((sb ++ y).size≤(k+1)*70000):=hid (by rw[ByteArray.size_append,Nat.succ_mul];have:=HSZ.out;have:=HYS.out;omega);go_wp2;go_roundw
      case rel=>exact⟨k+1,_,HLT.out,rfl,(by first | rfl | (rw[hwk];rfl)),HBq,HSZ2,HN⟩
      case measure=>(try rw[hwk]);exact meas_step5b HLT.out
    rw[decide_eq_false h78] at dz78;have hk2:(slotR f).k≠2:=by have:=HWF.out.2.2.2.1;rw[decide_eq_false h78] at this;exact of_decide_eq_false this
    by_cases h67:f=[67]
    ·have hk3:(slotR f).k=3:=of_decide_eq_true (by rw[HWF.out.2.2.2.2];exact decide_eq_true h67);rw[decide_eq_true h67] at dz67;have hwd:wordR f c=runW (textL c.cells [82]).1:=by unfold wordR;rw[hk3];rfl
     have hbd:badRun f c=decide ((textL c.cells [82]).2≠0):=by unfold badRun;rw[hk3];rfl
     have hrn:=rruns56_any A cap c.cells wr (HCL.out.ext HBW.out);have hrl:(runW (textL c.cells [82]).1).length≤(textL c.cells [82]).1.length:=runW_len _;have htl:=text_len56 (ps:=c.cells) (rule:=[82]);unfold runs56R at hrn;obtain⟨⟨tl,te⟩,ht⟩:∃ t,t=textL c.cells [82]:=⟨_,rfl⟩
     have hat:=HAT.out;rw[← ht] at hwd hbd hrn hrl htl hat;dsimp only at hwd hbd hrn hrl htl hat;have x6:wr.cell? ⟨w.heap.size,6,none⟩=some (.slice A c.cells.length cap):=HKP.out.cell_ 6 _ rfl;clear h82 hk1 h78 hk2 h67 hk3 ht;by_cases he:te=0
     ·subst he;have e0:((0:Int) != 0)=false:=rfl;rw[if_neg (by simp)] at hrn;obtain⟨y,hy⟩:∃ y:ByteArray,y=⟨(runW tl).toArray⟩:=⟨_,rfl⟩
      dsimp only at hrn;rw[← hy] at hrn;have HRN:=hid hrn;have HNB:Hid (¬ badRun f c=true):=hid (by rw[hbd];simp);have HY:Hid (y.data.toList=wordR f c):=hid (by rw[hy,hwd]);have HYS:Hid (y.size≤65536):=hid (by rw[Lib.size_eq,HY.out,hwd];have:=htl rfl;omega);clear hwd hbd hrn hrl htl hat hy;go_wp2_with (go_at_call 38;refine HRN.out.mono ?_;intro e w7 hx;obtain⟨rfl,hb7⟩:=hx;refine Hid.out ?_);refine hid ?_;have HB7:=hid (HBq.out.trans (hb7.mono HBq.out.size));clear hb7 HRN x6 cf;by_cases hk0:0 < k
      ·have dk0:decide ((0:Int) < (k:Int))=true:=decide_eq_true (by omega);have hm1:¬ 9223372036854775807 < sb.size+1:=by have:=HSZ.out;have:=HF9k.out;omega
       obtain⟨sb2,hsb2⟩:∃ b:ByteArray,b=sb ++ ⟨#[32]⟩:=⟨_,rfl⟩
       have hz2:sb2.size=sb.size+1:=by rw[hsb2,ByteArray.size_append];rfl
       have hl2:sb2.data.toList=sb.data.toList ++ [32]:=by rw[hsb2,ByteArray.data_append,Array.toList_append]
       have hm2:¬ 9223372036854775807 < sb2.size+y.size:=by have:=HSZ.out;have:=HF9k.out;have:=HYS.out;omega
       have HN:Hid (rlineTo (fs.drop (k+1)) c (decide (0 < k+1)) (sb2 ++ y).data.toList=rr):=hid (by
        rw[ByteArray.data_append,Array.toList_append,hl2,HY.out,decide_eq_true (Nat.succ_pos k),← HT.out,HAT.out,if_neg HNB.out,decide_eq_true hk0];rfl)
       have HSZ2:Hid ((sb2 ++ y).size≤(k+1)*70000):=hid (by rw[ByteArray.size_append,Nat.succ_mul];have:=HSZ.out;have:=HYS.out;omega);have HS2:=hid hsb2;clear hsb2 hz2 hl2;go_upto_region 20 with fail
       rw[← HS2.out];go_wp2;go_roundw
       case rel=>exact⟨k+1,_,HLT.out,rfl,(by first | rfl | (rw[hwk];rfl)),HB7,HSZ2,HN⟩
       case measure=>(try rw[hwk]);exact meas_step5b HLT.out
      ·have dk0:decide ((0:Int) < (k:Int))=false:=decide_eq_false (by omega);have hm2:¬ 9223372036854775807 < sb.size+y.size:=by have:=HSZ.out;have:=HF9k.out;have:=HYS.out;omega
       have HN:Hid (rlineTo (fs.drop (k+1)) c (decide (0 < k+1)) (sb ++ y).data.toList=rr):=hid (by
        rw[ByteArray.data_append,Array.toList_append,HY.out,decide_eq_true (Nat.succ_pos k),← HT.out,HAT.out,if_neg HNB.out,decide_eq_false hk0];rfl)
       have HSZ2:Hid ((sb ++ y).size≤(k+1)*70000):=hid (by rw[ByteArray.size_append,Nat.succ_mul];have:=HSZ.out;have:=HYS.out;omega);go_wp2;go_roundw
       case rel=>exact⟨k+1,_,HLT.out,rfl,(by first | rfl | (rw[hwk];rfl)),HB7,HSZ2,HN⟩
       case measure=>(try rw[hwk]);exact meas_step5b HLT.out
     ·have e0:(te != 0)=true:=by simpa using he
      rw[if_pos he] at hrn;dsimp only at hrn;have HRN:=hid hrn;have HRE:Hid (rr=([],te)):=hid (by rw[← HT.out,hat,hbd,decide_eq_true he];rfl);clear hwd hbd hrn hrl htl hat he;go_wp2_with (go_at_call 38;refine HRN.out.mono ?_;intro e w7 hx;obtain⟨rfl,hb7⟩:=hx;refine Hid.out ?_);refine hid ?_;have HB7:=hid (HBW.out.trans (hb7.mono HBW.out.size));clear hb7 HRN x6 cf;go_wp2;go_ret2;exact⟨ret_se HRE.out,HB7.out⟩
    rw[decide_eq_false h67] at dz67;have hk3:(slotR f).k≠3:=by have:=HWF.out.2.2.2.2;rw[decide_eq_false h67] at this;exact of_decide_eq_false this
    have HNB:Hid (¬ badRun f c=true):=hid (by unfold badRun;rw[decide_eq_false hk3];simp);clear h82 h78 h67;cases nb with
    | true=>
     have hk4:(slotR f).k=4:=of_decide_eq_true (by rw[HWF.out.1];exact HNBB.out.symm);have hnw:=num_words HKM.out HNM.out HNBB.out.symm;have hgn:=HNW.out f HNM.out hk4;obtain⟨v,hv⟩:∃ v,v=c.get (slotR f).fld:=⟨_,rfl⟩
     have hget:=get_any hnw c (nmV c) A c.cells.length cap wr;unfold GetAt cmdV at hget;rw[← hv] at hget hgn;rw[← HZF.out] at hget;have HGE:=hid hget;have hdl:=Lib.itoa_length_le v (by omega) (by omega);obtain⟨y,hy⟩:∃ y:ByteArray,y=⟨(Lib.itoa v).toArray⟩:=⟨_,rfl⟩
     have HDE:Hid (∀ W,Calls Tryz.prog 40 #[.int .i64 v] W fun e w'=>e=.returned (.string y)∧Below W.heap.size W w'):=hid (fun W=>by rw[hy];exact rdec56_any v (by omega) (by omega) W);have HY:Hid (y.data.toList=wordR f c):=hid (by rw[hy];unfold wordR;rw[hk4,hv];rfl);have HYS:Hid (y.size≤65536):=hid (by rw[Lib.size_eq,hy];exact Nat.le_trans hdl (by decide));clear hk1 hk2 hk3 hk4 hnw hgn hv hget hdl hy;have x0:wr.cell? ⟨w.heap.size,0,none⟩=some (.int .i64 c.kind):=HKP.out.cell_ 0 _ rfl;have x1:wr.cell? ⟨w.heap.size,1,none⟩=some (.int .i64 c.x):=HKP.out.cell_ 1 _ rfl;have x2:wr.cell? ⟨w.heap.size,2,none⟩=some (.int .i64 c.y):=HKP.out.cell_ 2 _ rfl;have x3:wr.cell? ⟨w.heap.size,3,none⟩=some (.int .i64 c.n):=HKP.out.cell_ 3 _ rfl;have x4:wr.cell? ⟨w.heap.size,4,none⟩=some (.int .i64 c.m):=HKP.out.cell_ 4 _ rfl;have x5:wr.cell? ⟨w.heap.size,5,none⟩=some (.string (nmV c)):=HKP.out.cell_ 5 _ rfl;have x6:wr.cell? ⟨w.heap.size,6,none⟩=some (.slice A c.cells.length cap):=HKP.out.cell_ 6 _ rfl;have x7:wr.cell? ⟨w.heap.size,7,none⟩=some (.int .i64 c.p):=HKP.out.cell_ 7 _ rfl;have x8:wr.cell? ⟨w.heap.size,8,none⟩=some (.int .i64 c.dx):=HKP.out.cell_ 8 _ rfl;have x9:wr.cell? ⟨w.heap.size,9,none⟩=some (.int .i64 c.dy):=HKP.out.cell_ 9 _ rfl;go_wp2_with (go_at_call 39;refine HNU.out.mono ?_;rintro e w7 ⟨rfl,hw⟩;rw[← hw];clear hw;refine Hid.out ?_);refine hid ?_;go_wp2_with (go_at_call 41;refine HGE.out.mono ?_;intro e w7 hx;obtain⟨rfl,hb7⟩:=hx;refine Hid.out ?_);refine hid ?_;have HB7:=hid (HBq.out.trans (hb7.mono HBq.out.size));clear hb7 HGE HNU cf;clear x0 x1 x2 x3 x4 x5 x6 x7 x8 x9;go_wp2_with (go_at_call 40;refine (HDE.out _).mono ?_;intro e w8 hx;obtain⟨rfl,hb8⟩:=hx;refine Hid.out ?_);refine hid ?_;have HB8:=hid (HB7.out.trans (hb8.mono HB7.out.size));clear hb8 HDE HB7;by_cases hk0:0 < k
     ·have dk0:decide ((0:Int) < (k:Int))=true:=decide_eq_true (by omega);have hm1:¬ 9223372036854775807 < sb.size+1:=by have:=HSZ.out;have:=HF9k.out;omega
      obtain⟨sb2,hsb2⟩:∃ b:ByteArray,b=sb ++ ⟨#[32]⟩:=⟨_,rfl⟩
      have hz2:sb2.size=sb.size+1:=by rw[hsb2,ByteArray.size_append];rfl
      have hl2:sb2.data.toList=sb.data.toList ++ [32]:=by rw[hsb2,ByteArray.data_append,Array.toList_append]
      have hm2:¬ 9223372036854775807 < sb2.size+y.size:=by have:=HSZ.out;have:=HF9k.out;have:=HYS.out;omega
      have HN:Hid (rlineTo (fs.drop (k+1)) c (decide (0 < k+1)) (sb2 ++ y).data.toList=rr):=hid (by
       rw[ByteArray.data_append,Array.toList_append,hl2,HY.out,decide_eq_true (Nat.succ_pos k),← HT.out,HAT.out,if_neg HNB.out,decide_eq_true hk0];rfl)
      have HSZ2:Hid ((sb2 ++ y).size≤(k+1)*70000):=hid (by rw[ByteArray.size_append,Nat.succ_mul];have:=HSZ.out;have:=HYS.out;omega);have HS2:=hid hsb2;clear hsb2 hz2 hl2;go_upto_region 20 with fail
      rw[← HS2.out];go_wp2;go_roundw
      case rel=>exact⟨k+1,_,HLT.out,rfl,(by first | rfl | (rw[hwk];rfl)),HB8,HSZ2,HN⟩
      case measure=>(try rw[hwk]);exact meas_step5b HLT.out
     ·have dk0:decide ((0:Int) < (k:Int))=false:=decide_eq_false (by omega);have hm2:¬ 9223372036854775807 < sb.size+y.size:=by have:=HSZ.out;have:=HF9k.out;have:=HYS.out;omega
      have HN:Hid (rlineTo (fs.drop (k+1)) c (decide (0 < k+1)) (sb ++ y).data.toList=rr):=hid (by
       rw[ByteArray.data_append,Array.toList_append,HY.out,decide_eq_true (Nat.succ_pos k),← HT.out,HAT.out,if_neg HNB.out,decide_eq_false hk0];rfl)
      have HSZ2:Hid ((sb ++ y).size≤(k+1)*70000):=hid (by rw[ByteArray.size_append,Nat.succ_mul];have:=HSZ.out;have:=HYS.out;omega);go_wp2;go_roundw
      case rel=>exact⟨k+1,_,HLT.out,rfl,(by first | rfl | (rw[hwk];rfl)),HB8,HSZ2,HN⟩
      case measure=>(try rw[hwk]);exact meas_step5b HLT.out
    | false=>
     have hk4:(slotR f).k≠4:=of_decide_eq_false (by rw[HWF.out.1];exact HNBB.out.symm);have hk0':(slotR f).k=0:=by
      obtain⟨-,-,-,-,-,-,h4⟩:=form_shape HKM.out;have:=h4 f HNM.out;omega
     have HY:Hid (z.data.toList=wordR f c):=hid (by rw[HZL.out];unfold wordR;rw[hk0'];rfl);have HYS:Hid (z.size≤65536):=hid (by rw[Lib.size_eq,HZL.out];have:=HF20.out;omega);clear hk1 hk2 hk3 hk4 hk0';go_wp2_with (go_at_call 39;refine HNU.out.mono ?_;rintro e w7 ⟨rfl,hw⟩;rw[← hw];clear hw;refine Hid.out ?_);refine hid ?_;clear HNU cf;by_cases hk0:0 < k
     ·have dk0:decide ((0:Int) < (k:Int))=true:=decide_eq_true (by omega);have hm1:¬ 9223372036854775807 < sb.size+1:=by have:=HSZ.out;have:=HF9k.out;omega
      obtain⟨sb2,hsb2⟩:∃ b:ByteArray,b=sb ++ ⟨#[32]⟩:=⟨_,rfl⟩
      have hz2:sb2.size=sb.size+1:=by rw[hsb2,ByteArray.size_append];rfl
      have hl2:sb2.data.toList=sb.data.toList ++ [32]:=by rw[hsb2,ByteArray.data_append,Array.toList_append]
      have hm2:¬ 9223372036854775807 < sb2.size+z.size:=by have:=HSZ.out;have:=HF9k.out;have:=HYS.out;omega
      have HN:Hid (rlineTo (fs.drop (k+1)) c (decide (0 < k+1)) (sb2 ++ z).data.toList=rr):=hid (by
       rw[ByteArray.data_append,Array.toList_append,hl2,HY.out,decide_eq_true (Nat.succ_pos k),← HT.out,HAT.out,if_neg HNB.out,decide_eq_true hk0];rfl)
      have HSZ2:Hid ((sb2 ++ z).size≤(k+1)*70000):=hid (by rw[ByteArray.size_append,Nat.succ_mul];have:=HSZ.out;have:=HYS.out;omega);have HS2:=hid hsb2;clear hsb2 hz2 hl2;go_upto_region 20 with fail
      rw[← HS2.out];go_wp2;go_roundw
      case rel=>exact⟨k+1,_,HLT.out,rfl,(by first | rfl | (rw[hwk];rfl)),HBq,HSZ2,HN⟩
      case measure=>(try rw[hwk]);exact meas_step5b HLT.out
     ·have dk0:decide ((0:Int) < (k:Int))=false:=decide_eq_false (by omega);have hm2:¬ 9223372036854775807 < sb.size+z.size:=by have:=HSZ.out;have:=HF9k.out;have:=HYS.out;omega
      have HN:Hid (rlineTo (fs.drop (k+1)) c (decide (0 < k+1)) (sb ++ z).data.toList=rr):=hid (by
       rw[ByteArray.data_append,Array.toList_append,HY.out,decide_eq_true (Nat.succ_pos k),← HT.out,HAT.out,if_neg HNB.out,decide_eq_false hk0];rfl)
      have HSZ2:Hid ((sb ++ z).size≤(k+1)*70000):=hid (by rw[ByteArray.size_append,Nat.succ_mul];have:=HSZ.out;have:=HYS.out;omega);go_wp2;go_roundw
      case rel=>exact⟨k+1,_,HLT.out,rfl,(by first | rfl | (rw[hwk];rfl)),HBq,HSZ2,HN⟩
      case measure=>(try rw[hwk]);exact meas_step5b HLT.out
   ·have hek:k=fb.length:=by omega
    have HRE:Hid (rr=(sb.data.toList,0)):=hid (by rw[← HT.out,hek,HFL.out,List.drop_length,rlineTo_end]);have dk:decide ((k:Int) < fb.length)=false:=decide_eq_false (by omega);have hnlt:¬ k < fb.length:=hlt;clear hek hlt HT;go_wp2;go_ret2;refine⟨?_,HBW.out⟩;have h:=ret_se HRE.out;rw[ba_eta] at h;exact h
def smallC (c:Cmd):Bool:=decide (c.cells.length≤200) && decide (c.name.length≤200)
set_option maxHeartbeats 4000000 in
theorem small_any (c:Cmd)(A:Option Addr)(n:Nat)(w:World)(hc:Cls w A c.cells):Calls Tryz.prog 13 #[cmdV c (nmV c) (.slice A c.cells.length n)] w fun e w'=>e=.returned (.bool (smallC c))∧Below w.heap.size w w':=by
 obtain⟨r,hr⟩:∃ r,r=smallC c:=⟨_,rfl⟩
 rw[← hr];unfold cmdV;obtain⟨w1,hw1⟩:∃ W,W=w.alloc (.cells #[.int .i64 c.kind,.int .i64 c.x,.int .i64 c.y,.int .i64 c.n,.int .i64 c.m,.string (nmV c),.slice A c.cells.length n,.int .i64 c.p,.int .i64 c.dx,.int .i64 c.dy] 34):=⟨_,rfl⟩
 have hk1:Blk w1 w.heap.size 34 #[.int .i64 c.kind,.int .i64 c.x,.int .i64 c.y,.int .i64 c.n,.int .i64 c.m,.string (nmV c),.slice A c.cells.length n,.int .i64 c.p,.int .i64 c.dx,.int .i64 c.dy]:=by rw[hw1];exact Blk.new _ _ _
 have hb1:Below w.heap.size w w1:=by rw[hw1];exact below_new _ _
 have x5:w1.cell? ⟨w.heap.size,5,none⟩=some (.string (nmV c)):=hk1.cell_ 5 _ rfl;have x6:w1.cell? ⟨w.heap.size,6,none⟩=some (.slice A c.cells.length n):=hk1.cell_ 6 _ rfl;have hns:(nmV c).size=c.name.length:=by rw[Lib.size_eq,nmV_data]
 have HB1:=hid hb1;have HR:=hid hr;clear hk1 hb1 hr hc;obtain⟨y,hy⟩:∃ y,y=nmV c:=⟨_,rfl⟩
 rw[← hy] at x5 hns hw1 ⊢;obtain⟨m,hm⟩:∃ m,m=c.cells.length:=⟨_,rfl⟩
 rw[← hm] at x6 hw1 ⊢;have HR2:Hid (r=(decide (m≤200) && decide (y.size≤200))):=hid (by rw[HR.out];unfold smallC;rw[← hm,← hns]);clear hns HR hm hy;go_enter Tryz.func13,Tryz.ntmps13;go_upto_region 1 with fail
 rw[← hw1];clear hw1;by_cases h1:m≤200
 ·have d1:decide ((m:Int)≤200)=true:=decide_eq_true (by omega);have h1i:(m:Int)≤200:=by omega
  by_cases h2:y.size≤200
  ·have d2:decide ((y.size:Int)≤200)=true:=decide_eq_true (by omega);have h2i:(y.size:Int)≤200:=by omega
   have HRE:Hid (r=true):=hid (by rw[HR2.out,decide_eq_true h1,decide_eq_true h2];rfl);clear h1 h2;go_wp2;go_ret;exact⟨ret_b56 HRE.out.symm,HB1.out⟩
  ·have d2:decide ((y.size:Int)≤200)=false:=decide_eq_false (by omega);have h2i:¬ (y.size:Int)≤200:=by omega
   have HRE:Hid (r=false):=hid (by rw[HR2.out,decide_eq_false h2,Bool.and_false]);clear h1 h2;go_wp2;go_ret;exact⟨ret_b56 HRE.out.symm,HB1.out⟩
 ·have d1:decide ((m:Int)≤200)=false:=decide_eq_false (by omega);have h1i:¬ (m:Int)≤200:=by omega
  have HRE:Hid (r=false):=hid (by rw[HR2.out,decide_eq_false h1,Bool.false_and]);clear h1;go_wp2;go_ret;exact⟨ret_b56 HRE.out.symm,HB1.out⟩
def smallsC (l:List Cmd):Bool:=decide (l.length≤30) && l.all smallC
theorem all_drop {l:List Cmd}{k:Nat}(h:k < l.length):(l.drop k).all smallC=(smallC l[k] && (l.drop (k+1)).all smallC):=by
 rw[List.drop_eq_getElem_cons h];rfl
set_option maxHeartbeats 4000000 in
theorem smalls_any (v:Value)(l:List Cmd)(w:World)(hl:CmsA w v l):Calls Tryz.prog 18 #[v] w fun e w'=>e=.returned (.bool (smallsC l))∧Below w.heap.size w w':=by
 obtain⟨LA,lc,rfl⟩:=hl.form;have hle:=hl.le;obtain⟨r,hr⟩:∃ r,r=smallsC l:=⟨_,rfl⟩
 rw[← hr];have HR:=hid hr;have HL:=hid hl;clear hr hl;go_enter Tryz.func18,Tryz.ntmps18;by_cases h2:30 < l.length
 ·have d2:decide ((30:Int) < (l.length:Int))=true:=decide_eq_true (by omega);have HRE:Hid (r=false):=hid (by rw[HR.out];unfold smallsC;rw[decide_eq_false (by omega)];rfl);clear hle;go_wp2;go_ret;exact⟨ret_b56 HRE.out.symm,Below.refl _ _⟩
 have d2:decide ((30:Int) < (l.length:Int))=false:=decide_eq_false (by omega);have HL2:Hid (l.length≤30):=hid (by omega);have HR2:Hid (r=l.all smallC):=hid (by rw[HR.out];unfold smallsC;rw[decide_eq_true HL2.out];rfl);clear hle HR;go_wp2;clear d2 h2;go_loopw [9] (fun iv wr=>∃ k:Nat,k≤l.length∧iv=.int .i64 k∧Hid (Below w.heap.size w wr)∧Hid ((l.drop k).all smallC=r)) (fun iv _=>l.length - (intOf iv).toNat)
 case atStart=>exact⟨0,Nat.zero_le _,rfl,hid (Below.refl _ _),hid HR2.out.symm⟩
 case round=>
  obtain⟨k,hk,rfl,HBq,HT⟩:=hrel;have hwk:wrap64 ((k:Int)+1)=(k:Int)+1:=by have:=HL2.out;unfold wrap64;omega
  by_cases hlt:k < l.length
  ·obtain⟨lb,lo,lcc,A,n,e1,-,hcl,y0,y1,y2,y3,y4,y5,y6,y7,y8,y9⟩:=(HL.out.ext HBq.out).at_ hlt;injection e1 with e1 e2 e3
   subst e1 e3;have hat:=all_drop hlt;obtain⟨c,hc⟩:∃ c,c=l[k]:=⟨_,rfl⟩
   rw[← hc] at hat hcl y0 y1 y2 y3 y4 y5 y6 y7 y8 y9;have HLT:=hid hlt;have HAT:=hid hat;have hsm:=small_any c A n wr hcl;obtain⟨b,hb⟩:∃ b,b=smallC c:=⟨_,rfl⟩
   rw[← hb] at hsm HAT;unfold cmdV at hsm;have HSM:=hid hsm;clear hat hcl hc hsm hb;go_wp2_with (go_at_call 13;refine HSM.out.mono ?_;intro e w7 hx;obtain⟨rfl,hb7⟩:=hx;refine Hid.out ?_);refine hid ?_;have HB7:=hid (HBq.out.trans (hb7.mono HBq.out.size));clear hb7 HSM HBq y0 y1 y2 y3 y4 y5 y6 y7 y8 y9;cases b with
   | true=>
    have HN:Hid ((l.drop (k+1)).all smallC=r):=hid (by rw[← HT.out,HAT.out,Bool.true_and]);go_wp2;go_roundw
    case rel=>exact⟨k+1,HLT.out,(by first | rfl | (rw[hwk];rfl)),HB7,HN⟩
    case measure=>(try rw[hwk]);exact meas_step5b HLT.out
   | false=>
    have HRE:Hid (r=false):=hid (by rw[← HT.out,HAT.out,Bool.false_and]);go_wp2;go_ret;exact⟨ret_b56 HRE.out.symm,HB7.out⟩
  ·have hek:k=l.length:=by omega
   have dk:decide ((k:Int) < l.length)=false:=decide_eq_false (by omega);have hnlt:¬ k < l.length:=hlt;have HRE:Hid (r=true):=hid (by rw[← HT.out,hek,List.drop_length];rfl);clear hek hlt HT;go_wp2;go_ret;exact⟨ret_b56 HRE.out.symm,HBq.out⟩
theorem smalls_names {l:List Cmd}(h:smallsC l=true):∀ c ∈ l,c.name.length≤65536:=by
 intro c hc;unfold smallsC at h;rw[Bool.and_eq_true] at h;have h2:=List.all_eq_true.1 h.2 c hc;unfold smallC at h2;rw[Bool.and_eq_true,decide_eq_true_eq,decide_eq_true_eq] at h2;omega
end Go.Proofs.YtcfelnhmifkelaaGreatDoor
namespace Go.Proofs.YtcfelnhmifkelaaGreatDoor
set_option linter.unusedSimpArgs false
open Go.ChangeShapes Go.WideShapes Go.ChangeAt Go.RowKit Go.Deep
set_option maxRecDepth 100000
set_option linter.unusedVariables false

theorem flat_len3:∀ ps:List Cel,(ps.flatMap celCells).length=ps.length*3
 | []=>rfl
 | p :: r=>by rw[List.flatMap_cons,List.length_append,flat_len3 r];simp[celCells];omega
section
variable {H : Type} {enc : TypeId × Value → H} {W : World}
theorem open_Cls {n:Nat}{v:Value}{x:DataW H × List MemPlace}(h:DataW.trod enc Tryz.prog W 0 (fun _=>true) true n 30 [v]=some x):∃ A c ps,v=.slice A (ps:List Cel).length c∧Cls W A ps:=by
 rcases open_slice Tryz.underlying30 h with ⟨hcs,-⟩ | ⟨a,len,cap,m,k,D,Pl,hcs,-,hl,hm,hmm,-,hx⟩
 ·injection hcs with hcs
  exact⟨none,0,[],hcs,Cls.nil⟩
 ·injection hcs with hcs
  have hmc:m=cap:=by rw[hmm];rfl
  have hx':∀ i,i < len→∃ q:Cel,W.cell? (a.add (i*3))=some (.int .i64 q.x)∧W.cell? (a.add (i*3+1))=some (.int .i64 q.y)∧W.cell? (a.add (i*3+2))=some (.int .i64 q.s):=by
   intro i hi;obtain⟨cs',h1,h2⟩:=hx i (by omega);rw[Tryz.cellsCel] at h1;obtain⟨_,hlen,hcell⟩:=World.cells?_some h1;obtain⟨xs,k2,hk,hxy,_,hxl,hf⟩:=DataW.trod_struct Tryz.underlying114 h2
   match xs,hxl,cs',hlen with
   | [y0,y1,y2],_,[v0,v1,v2],_=>
    have g0:=hf 0 _ rfl;have g1:=hf 1 _ rfl;have g2:=hf 2 _ rfl;simp[Tryz.cellsInt] at g0 g1 g2;have e0:=hcell 0 (by omega);have e1:=hcell 1 (by omega);have e2:=hcell 2 (by omega);rw[add_add] at e0 e1 e2;obtain⟨p,r0,-,-⟩:=DataW.trod_int Tryz.underlying3 g0;obtain⟨q,r1,-,-⟩:=DataW.trod_int Tryz.underlying3 g1;obtain⟨r,r2,-,-⟩:=DataW.trod_int Tryz.underlying3 g2;injection r0 with r0
    injection r1 with r1
    injection r2 with r2
    subst r0 r1 r2;exact⟨⟨p,q,r⟩,by simpa using e0,by simpa using e1,by simpa using e2⟩
  obtain⟨F,hF⟩:∃ F:Nat→Cel,∀ i,i < len→W.cell? (a.add (i*3))=some (.int .i64 (F i).x)∧W.cell? (a.add (i*3+1))=some (.int .i64 (F i).y)∧W.cell? (a.add (i*3+2))=some (.int .i64 (F i).s):=by
   refine⟨fun i=>if hi:i < len then Classical.choose (hx' i hi) else ⟨0,0,0⟩,fun i hi=>?_⟩;simp only[hi,dif_pos];exact Classical.choose_spec (hx' i hi)
  refine⟨some a,cap,(List.range len).map F,?_,⟨?_,fun hn=>⟨a,rfl,?_,fun j u hu=>?_⟩⟩,?_⟩
  ·rw[hcs,List.length_map,List.length_range]
  ·rw[flat_len3]
  ·have h0:=(hF 0 (by simpa using hn)).1;exact World.block_lt_of_cell? _ _ h0
  ·have hj:j < len*3:=by
    have:=(List.getElem?_eq_some_iff.1 hu).1;rw[flat_len3] at this;simpa using this
   have hi:j / 3 < ((List.range len).map F).length:=by simp;omega
   obtain⟨f0,f1,f2⟩:=flat3 ((List.range len).map F) (j / 3) hi;obtain⟨g0,g1,g2⟩:=hF (j / 3) (by omega);have hg:((List.range len).map F)[j / 3]=F (j / 3):=by simp
   rw[hg] at f0 f1 f2;have h3:j % 3=0∨j % 3=1∨j % 3=2:=by omega
   rcases h3 with h2 | h2 | h2
   ·have ej:j=3*(j / 3):=by omega
    rw[ej] at hu ⊢;rw[f0] at hu;rw[Nat.mul_comm,g0];exact hu
   ·have ej:j=3*(j / 3)+1:=by omega
    rw[ej] at hu ⊢;rw[f1] at hu;rw[Nat.mul_comm,g1];exact hu
   ·have ej:j=3*(j / 3)+2:=by omega
    rw[ej] at hu ⊢;rw[f2] at hu;rw[Nat.mul_comm,g2];exact hu
  ·rw[List.length_map,List.length_range];unfold maxLen at hm;omega
end
theorem Tryz.cellsStrK:Tryz.prog.cellsOf 9=1:=by kernel_rfl
theorem Tryz.cellsPatK:Tryz.prog.cellsOf 30=1:=by kernel_rfl
theorem Tryz.cellsMotK:Tryz.prog.cellsOf 32=3:=by kernel_rfl
theorem Tryz.cellsCmdK:Tryz.prog.cellsOf 34=10:=by kernel_rfl
theorem array10 {α:Type} {cs:Array α}(h:cs.size=10):∃ c0 c1 c2 c3 c4 c5 c6 c7 c8 c9,cs=#[c0,c1,c2,c3,c4,c5,c6,c7,c8,c9]:=by
 obtain⟨l⟩:=cs
 match l,h with
 | [c0,c1,c2,c3,c4,c5,c6,c7,c8,c9],_=>exact⟨c0,c1,c2,c3,c4,c5,c6,c7,c8,c9,rfl⟩
section
variable {H : Type} {enc : TypeId × Value → H} {W : World}
theorem open_Cmd {n:Nat}{v0 v1 v2 v3 v4 v5 v6 v7 v8 v9:Value}{x:DataW H × List MemPlace}(h:DataW.trod enc Tryz.prog W 0 (fun _=>true) true n 34 [v0,v1,v2,v3,v4,v5,v6,v7,v8,v9]=some x) :
  ∃ (c:Cmd) (A:Option Addr) (k:Nat),v0=.int .i64 c.kind∧v1=.int .i64 c.x∧v2=.int .i64 c.y∧v3=.int .i64 c.n∧v4=.int .i64 c.m∧v5=.string (nmV c)∧v6=.slice A c.cells.length k∧v7=.int .i64 c.p∧v8=.int .i64 c.dx∧v9=.int .i64 c.dy∧Cls W A c.cells:=by
 obtain⟨xs,k2,hk,hxy,_,hxl,hg⟩:=DataW.trod_struct Tryz.underlying34 h
 match xs,hxl with
 | [y0,y1,y2,y3,y4,y5,y6,y7],_=>
  have g0:=hg 0 _ rfl;have g1:=hg 1 _ rfl;have g2:=hg 2 _ rfl;have g3:=hg 3 _ rfl;have g4:=hg 4 _ rfl;have g5:=hg 5 _ rfl;have g6:=hg 6 _ rfl;have g7:=hg 7 _ rfl;simp[Tryz.cellsInt] at g0 g1 g2 g3 g4;simp[Tryz.cellsStrK] at g5;simp[Tryz.cellsPatK] at g6;simp[Tryz.cellsMotK] at g7;obtain⟨k0,e0,-,-⟩:=DataW.trod_int Tryz.underlying3 g0;obtain⟨k1,e1,-,-⟩:=DataW.trod_int Tryz.underlying3 g1;obtain⟨k2,e2,-,-⟩:=DataW.trod_int Tryz.underlying3 g2;obtain⟨k3,e3,-,-⟩:=DataW.trod_int Tryz.underlying3 g3;obtain⟨k4,e4,-,-⟩:=DataW.trod_int Tryz.underlying3 g4;obtain⟨s,e5,-,-⟩:=DataW.trod_string Tryz.underlying9 g5;obtain⟨A,c,ps,rfl,hp⟩:=open_Cls g6;obtain⟨ys,m2,hm,hmy,_,hyl,hq⟩:=DataW.trod_struct Tryz.underlying32 g7
  match ys,hyl with
  | [z0,z1,z2],_=>
   have q0:=hq 0 _ rfl;have q1:=hq 1 _ rfl;have q2:=hq 2 _ rfl;simp[Tryz.cellsInt] at q0 q1 q2;obtain⟨k7,e7,-,-⟩:=DataW.trod_int Tryz.underlying3 q0;obtain⟨k8,e8,-,-⟩:=DataW.trod_int Tryz.underlying3 q1;obtain⟨k9,e9,-,-⟩:=DataW.trod_int Tryz.underlying3 q2;injection e0 with e0
   injection e1 with e1
   injection e2 with e2
   injection e3 with e3
   injection e4 with e4
   injection e5 with e5
   injection e7 with e7
   injection e8 with e8
   injection e9 with e9
   exact⟨⟨k0,k1,k2,k3,k4,s.data.toList,ps,k7,k8,k9⟩,A,c,e0,e1,e2,e3,e4,by rw[e5];unfold nmV;rw[ba_eta],rfl,e7,e8,e9,hp⟩
theorem open_CmdArg {r:Reach}{b0:Nat}{v:Value}{d:DataW H}{p:List MemPlace}(hv:Value.okWide Tryz.prog W r b0 34 v)(h:DataW.Trod enc Tryz.prog W 0 (fun _=>true) true 34 v d p) :
  ∃ (c:Cmd) (A:Option Addr) (k:Nat),v=cmdV c (nmV c) (.slice A c.cells.length k)∧Cls W A c.cells:=by
 obtain⟨cs,rfl,hsz⟩:=okWide_struct Tryz.underlying34 hv;obtain⟨c0,c1,c2,c3,c4,c5,c6,c7,c8,c9,rfl⟩:=array10 (hsz.trans Tryz.cellsCmdK);obtain⟨fuel,hf⟩:=h;obtain⟨c,A,k,rfl,rfl,rfl,rfl,rfl,rfl,rfl,rfl,rfl,rfl,hc⟩:=open_Cmd hf;exact⟨c,A,k,rfl,hc⟩
theorem open_CmsArg {r:Reach}{b0:Nat}{v:Value}{d:DataW H}{p:List MemPlace}(hv:Value.okWide Tryz.prog W r b0 23 v)(h:DataW.Trod enc Tryz.prog W 0 (fun _=>true) true 23 v d p) :
  ∃ l:List Cmd,CmsA W v l:=by
 obtain⟨x,l,c,rfl⟩:=okWide_slice Tryz.underlying23 hv;obtain⟨fuel,hf⟩:=h;rcases open_slice Tryz.underlying23 hf with ⟨hcs,-⟩ | ⟨a,len,cap,m,k,D,Pl,hcs,-,hl,hm,hmm,-,hx⟩
 ·injection hcs with hcs
  rw[hcs];exact⟨[],CmsA.nil W⟩
 ·injection hcs with hcs
  have hmc:m=cap:=by rw[hmm];rfl
  have hx':∀ i,i < len→∃ q:Cmd × (Option Addr × Nat),(∀ j u,(cmdCells (q.1,.slice q.2.1 q.1.cells.length q.2.2))[j]?=some u→W.cell? (a.add (i*10+j))=some u)∧Cls W q.2.1 q.1.cells:=by
   intro i hi;obtain⟨cs',h1,h2⟩:=hx i (by omega);rw[Tryz.cellsCmdK] at h1;obtain⟨_,hlen,hcell⟩:=World.cells?_some h1
   match cs',hlen with
   | [v0,v1,v2,v3,v4,v5,v6,v7,v8,v9],_=>
    obtain⟨c,A,k,rfl,rfl,rfl,rfl,rfl,rfl,rfl,rfl,rfl,rfl,hc⟩:=open_Cmd h2;refine⟨(c,A,k),fun j u hu=>?_,hc⟩;have hj:j < 10:=(List.getElem?_eq_some_iff.1 hu).1;have e:=hcell j hj;rw[add_add] at e;rw[e];exact hu
  obtain⟨F,hF⟩:∃ F:Nat→Cmd × (Option Addr × Nat),∀ i,i < len→(∀ j u,(cmdCells ((F i).1,.slice (F i).2.1 (F i).1.cells.length (F i).2.2))[j]?=some u→W.cell? (a.add (i*10+j))=some u)∧Cls W (F i).2.1 (F i).1.cells:=by
   refine⟨fun i=>if hi:i < len then Classical.choose (hx' i hi) else (cmd0,none,0),fun i hi=>?_⟩;simp only[hi,dif_pos];exact Classical.choose_spec (hx' i hi)
  have hlc:((List.range len).map fun i=>(F i).1).length=len:=by rw[List.length_map,List.length_range]
  have hz:((List.range len).map fun i=>(F i).1).zip ((List.range len).map fun i=>Value.slice (F i).2.1 (F i).1.cells.length (F i).2.2)=(List.range len).map fun i=>((F i).1,Value.slice (F i).2.1 (F i).1.cells.length (F i).2.2):=by
   exact List.zip_map' ..
  have hfl:(((List.range len).map fun i=>((F i).1,Value.slice (F i).2.1 (F i).1.cells.length (F i).2.2)).flatMap cmdCells).length=len*10:=by
   have key:∀ l:List (Cmd × Value),(l.flatMap cmdCells).length=l.length*10:=by
    intro l;induction l with
    | nil=>rfl
    | cons q l ih=>rw[List.flatMap_cons,List.length_append,ih,List.length_cons];show 10+_=_;omega
   rw[key,List.length_map,List.length_range]
  refine⟨(List.range len).map fun i=>(F i).1,some a,cap,(List.range len).map fun i=>Value.slice (F i).2.1 (F i).1.cells.length (F i).2.2,by rw[hcs,hlc],⟨by rw[List.length_map,List.length_map],fun i h1 h2=>?_⟩,⟨by rw[hz,hfl,hlc],fun hn=>⟨a,rfl,?_,fun j u hu=>?_⟩⟩,by rw[hlc];unfold maxLen at hm;omega⟩
  ·rw[hlc] at h1;have e1:((List.range len).map fun i=>(F i).1)[i]'(by rw[hlc];exact h1)=(F i).1:=by simp
   have e2:((List.range len).map fun i=>Value.slice (F i).2.1 (F i).1.cells.length (F i).2.2)[i]=Value.slice (F i).2.1 (F i).1.cells.length (F i).2.2:=by simp
   rw[e1,e2];exact⟨_,_,rfl,(hF i h1).2⟩
  ·rw[hlc] at hn;have h0:=(hF 0 hn).1 0 _ rfl;have:=World.block_lt_of_cell? _ _ h0;rwa [block_of_add] at this
  ·rw[hz] at hu;have hj:j < len*10:=by
    have:=(List.getElem?_eq_some_iff.1 hu).1;rw[hfl] at this;exact this
   have hq:j / 10 < ((List.range len).map fun i=>((F i).1,Value.slice (F i).2.1 (F i).1.cells.length (F i).2.2)).length:=by simp;omega
   have hf:=flat10 cmdCells (fun _=>rfl) ((List.range len).map fun i=>((F i).1,Value.slice (F i).2.1 (F i).1.cells.length (F i).2.2)) (j / 10) hq (j % 10) (by omega);have ej:10*(j / 10)+j % 10=j:=by omega
   rw[ej] at hf;have e3:((List.range len).map fun i=>((F i).1,Value.slice (F i).2.1 (F i).1.cells.length (F i).2.2))[j / 10]=((F (j / 10)).1,Value.slice (F (j / 10)).2.1 (F (j / 10)).1.cells.length (F (j / 10)).2.2):=by simp
   rw[e3] at hf;rw[hf] at hu;have:=(hF (j / 10) (by omega)).1 (j % 10) u hu;rwa [show j / 10*10+j % 10=j by omega] at this
end
end Go.Proofs.YtcfelnhmifkelaaGreatDoor
