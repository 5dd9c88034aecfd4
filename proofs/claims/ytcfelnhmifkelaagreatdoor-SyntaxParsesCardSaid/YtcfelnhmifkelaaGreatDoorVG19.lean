/-
  texts Rpar56 Sam56: parts of the proof; conditions stand with each theorem.
-/
import Derived.Test.YtcfelnhmifkelaaGreatDoorVG18
import Derived.Test.YtcfelnhmifkelaaGreatDoorVG15
import Derived.Test.YtcfelnhmifkelaaGreatDoorVG17
import Derived.Test.YtcfelnhmifkelaaGreatDoorVG1
import Derived.BigRegion
namespace Go.Proofs.YtcfelnhmifkelaaGreatDoor
open Lib(hid)
open Go.RowKit
set_option maxRecDepth 100000
set_option linter.unusedVariables false
set_option linter.unusedSimpArgs false
theorem Sts.take {w:World}{A:Option Addr}{bs:List ByteArray}(h:Sts w A bs)(n:Nat):Sts w A (bs.take n):=by
 refine⟨⟨by rw[List.length_map,Nat.mul_one],fun h0=>?_⟩,by rw[List.length_take];have:=h.2;omega⟩;obtain⟨ad,e,hb,hc⟩:=h.1.2 (Nat.lt_of_lt_of_le h0 (by rw[List.length_take];omega));refine⟨ad,e,hb,fun k u hu=>hc k u ?_⟩;rw[List.map_take,List.getElem?_take] at hu
 split at hu
 ·exact hu
 ·cases hu
theorem lines_last {ls:List ByteArray}{l:List UInt8}(h:wdL ls=splitC 10 l)(hp:ls.length - 1 < ls.length):linesP l=if (ls[ls.length - 1]'hp).data.toList=[] then wdL (ls.take (ls.length - 1)) else wdL ls:=by
 unfold linesP;have h1:(splitC 10 l).getLast?=some (ls[ls.length - 1]'hp).data.toList:=by
  rw[← h,List.getLast?_eq_getElem?];unfold wdL;rw[List.length_map,List.getElem?_map,List.getElem?_eq_getElem hp];rfl
 rw[h1];by_cases h2:(ls[ls.length - 1]'hp).data.toList=[]
 ·rw[if_pos h2,if_pos (by rw[h2]),← h,List.dropLast_eq_take];unfold wdL;rw[List.length_map,List.map_take]
 ·rw[if_neg h2,if_neg (by intro e;injection e with e;exact h2 e),h]
set_option maxHeartbeats 32000000 in
theorem rparse56_any (s:ByteArray)(w:World)(hs:s.data.toList.length≤70000) :
  Calls Tryz.prog 11 #[.string s] w (RetSc (scrP s.data.toList) w):=by
 obtain⟨l,hl⟩:∃ x,x=s.data.toList:=⟨_,rfl⟩
 obtain⟨r,hr⟩:∃ r,r=scrP l:=⟨_,rfl⟩
 have hsz:s.size=l.length:=by rw[hl];exact Array.length_toList.symm
 rw[← hl] at hs;have hsp:=rsplit_any s 10 10 rfl w (by omega);rw[← hl] at hsp;rw[← hl,← hr];have HS:=hid hs;have HSP:=hid hsp;have HR:=hid hr;have HSZ:=hid hsz;clear hr hl hs hsp;by_cases h1:65536 < l.length
 ·have d1:decide ((65536:Int) < (s.size:Int))=true:=decide_eq_true (by omega);have h1b:65536 < s.size:=by omega
  have HN:Hid (r=([],0,6)):=hid (by rw[HR.out];unfold scrP;rw[if_pos h1]);clear h1 hsz;go_enter Tryz.func11,Tryz.ntmps11;go_wp2;go_ret3;exact RetSc.bad HN.out (Below.refl _ _)
 have d1:decide ((65536:Int) < (s.size:Int))=false:=decide_eq_false (by omega);have h1b:¬ 65536 < s.size:=by omega
 have H1:=hid h1;clear h1 hsz;go_enter Tryz.func11,Tryz.ntmps11;go_wp2_with (go_at_call 29;refine HSP.out.mono ?_;rintro e w1 ⟨LA,c',ls,rfl,hls,hwl,⟨hn1,hn2⟩,hb1⟩;refine Hid.out ?_);refine hid ?_;have hpos:0 < ls.length:=by
  have h:=congrArg List.length hwl;rw[wdL_len,split_feeds] at h;omega
 have hp:ls.length - 1 < ls.length:=by omega
 have hll:=lines_last hwl hp;obtain⟨lb,lo,rfl,hlb,cl⟩:=hls.at_ hp;obtain⟨z,hz⟩:∃ z,z=ls[ls.length - 1]'hp:=⟨_,rfl⟩
 rw[← hz] at cl hll;have dn:=str_nil56 z;have HLS:=hid hls;have HB1:=hid hb1;have HLL:=hid hll;have hsub:wrap64 ((ls.length:Int) - 1)=((ls.length - 1:Nat):Int):=by have:=HSZ.out;have:=HS.out;unfold wrap64;omega
 have hgt:ls.length - 1 < ls.length:=hp;clear hz hls hb1 hwl hll hn1 HSP d1 h1b;by_cases hz0:z.data.toList=[]
 ·rw[decide_eq_true hz0] at dn;obtain⟨ms,hms⟩:∃ m,m=ls.take (ls.length - 1):=⟨_,rfl⟩
  have hml:ms.length=ls.length - 1:=by rw[hms,List.length_take];omega
  have HMS:Hid (Sts w1 (some ⟨lb,lo,none⟩) ms):=hid (by rw[hms];exact HLS.out.take _);have HMW:Hid (wdL ms=linesP l):=hid (by rw[HLL.out,if_pos hz0,hms]);have HML:Hid (ms.length=(linesP l).length):=hid (by rw[← HMW.out,wdL_len]);rw[← hml] at hsub;have hmc:ms.length≤c':=by omega
  clear hms hz0;go_upto_region 6 with fail
  rw[← hml];clear hsub hgt cl dn hn2 hpos hp HLS HLL hml hmc;by_cases h2:200 < ms.length
  ·have d2:decide ((200:Int) < (ms.length:Int))=true:=decide_eq_true (by omega);have HN:Hid (r=([],0,6)):=hid (by rw[HR.out];unfold scrP;rw[if_neg H1.out,if_pos (by rw[← HML.out];exact h2)]);go_wp2;go_ret3;exact RetSc.bad HN.out HB1.out
  have d2:decide ((200:Int) < (ms.length:Int))=false:=decide_eq_false (by omega);have HRS:Hid (runS 0 [] (wdL ms)=r):=hid (by rw[HR.out,HMW.out];unfold scrP;rw[if_neg H1.out,if_neg (by rw[← HML.out];exact h2)]);have HL2:Hid (ms.length≤200):=hid (by omega);have HPT:Hid (∀ p ∈ wdL ms,p.length≤70000):=hid (fun p hp=>by
   rw[HMW.out] at hp;exact Nat.le_trans (lines_part l p hp) HS.out)
  have h2b:¬ 200 < ms.length:=h2;clear h2;go_wp2;clear d2 h2b;go_loopw [6,7] (fun ov iv wr=>∃ (k:Nat) (acc:List Cmd),k≤ms.length∧iv=.int .i64 k∧Hid (Below w1.heap.size w1 wr)∧Hid (OwnK wr w1.heap.size ov acc)∧Hid (acc.length≤k)∧Hid (runS k acc ((wdL ms).drop k)=r)) (fun _ iv _=>ms.length - (intOf iv).toNat)
  case atStart=>exact⟨0,[],Nat.zero_le _,rfl,hid (Below.refl _ _),hid (OwnK.nil _ _),hid (Nat.le_refl _),HRS⟩
  case round=>
   obtain⟨k,acc,hk,rfl,HBq,HO,HAC,HT⟩:=hrel;have hwk:wrap64 ((k:Int)+1)=(k:Int)+1:=by have:=HL2.out;unfold wrap64;omega
   have HBW:=hid (HB1.out.trans (HBq.out.mono HB1.out.size));by_cases hlt:k < ms.length
   ·obtain⟨lb,lo,e1,-,cl⟩:=(HMS.out.ext HBq.out).at_ hlt;injection e1 with e1
    injection e1 with e1 e2
    subst e1 e2;have hkw:k < (wdL ms).length:=by rw[wdL_len];exact hlt
    have hat:=runS_at hkw acc;have hwl:(wdL ms)[k]=ms[k].data.toList:=wdL_at hlt hkw;have hpt:=HPT.out _ (List.getElem_mem hkw);rw[hwl] at hat hpt;obtain⟨y,hy⟩:∃ y,y=ms[k]:=⟨_,rfl⟩
    rw[← hy] at cl hat hpt;have hys:y.size=y.data.toList.length:=Array.length_toList.symm;have HAT:=hid hat;have HPY:=hid hpt;have HLT:=hid hlt;have HSP:=hid (rwords_any y wr (by omega));clear hy hat hpt hwl hkw hys;go_wp2_with (go_at_call 30;refine HSP.out.mono ?_;rintro e w3 ⟨WA,wc,bs,rfl,hbs,hbw,hb7,hb3⟩;refine Hid.out ?_);refine hid ?_;have HB3:=hid (HBq.out.trans (hb3.mono HBq.out.size));have HBW3:=hid (HBW.out.trans (hb3.mono HBW.out.size));have HO3:=hid (HO.out.ext hb3);have HBS:=hid hbs;have HBX:=hid hbw;have HB7:=hid hb7;clear hbs hbw hb7 hb3 HSP HO HBq HBW;by_cases h0:bs.length=0
    ·have e0:((bs.length:Int) == 0)=true:=by rw[h0];rfl
     have hw0:wordsOf y.data.toList=[]:=by rw[← HBX.out,List.length_eq_zero_iff.1 h0];rfl
     have HN:Hid (runS (k+1) acc ((wdL ms).drop (k+1))=r):=hid (by rw[← HT.out,HAT.out,cmdL_empty hw0]);clear h0 hw0;go_wp2;go_roundw
     case rel=>exact⟨k+1,acc,HLT.out,(by first | rfl | (rw[hwk];rfl)),HB3,HO3,hid (Nat.le_succ_of_le HAC.out),HN⟩
     case measure=>(try rw[hwk]);exact meas_step5b HLT.out
    ·have e0:((bs.length:Int) == 0)=false:=beq_false_of_ne (by omega);have hw0:wordsOf y.data.toList≠[]:=by
      rw[← HBX.out];intro e;have:=congrArg List.length e;rw[wdL_len] at this;exact h0 this
     have hcl:=cmdL_words2 hw0;obtain⟨ws,hws⟩:∃ x,x=wordsOf y.data.toList:=⟨_,rfl⟩
     have HWP:Hid (∀ b ∈ bs,b.data.toList.length≤70000):=hid (fun b hb=>by
      have h1:b.data.toList ∈ wdL bs:=List.mem_map_of_mem hb;rw[HBX.out] at h1;exact Nat.le_trans (words_part _ _ h1) HPY.out)
     rw[← hws] at hcl HBX;have hcm:=rcommand_any WA wc bs w3 HBS.out (by have:=HB7.out;omega) (fun b hb=>by have:=HWP.out b hb;omega);rw[HBX.out] at hcm;have hcw:cmdL y.data.toList=some (cmdW ws):=by rw[hcl];unfold cmdW;cases formOf ws <;> rfl
     have hat:=HAT.out;rw[hcw] at hat;obtain⟨rc,hrc⟩:∃ x,x=cmdW ws:=⟨_,rfl⟩
     rw[← hrc] at hcm hat;obtain⟨cc,er⟩:=rc;unfold RetCm cmdV at hcm;dsimp only at hcm hat;have HCM:=hid hcm;have HAT3:=hid hat;clear h0 hw0 hcl hws hcw hrc hat hcm HAT;go_wp2_with (go_at_call 31;refine HCM.out.mono ?_;rintro e w8 ⟨A5,c5,rfl,hc5,hn5,hb8⟩;refine Hid.out ?_);refine hid ?_;obtain⟨w9,hw9⟩:∃ W,w8.alloc (.cells #[.int .i64 cc.kind,.int .i64 cc.x,.int .i64 cc.y,.int .i64 cc.n,.int .i64 cc.m,.string (nmV cc),.slice A5 cc.cells.length c5,.int .i64 cc.p,.int .i64 cc.dx,.int .i64 cc.dy] 34)=W:=⟨_,rfl⟩
     obtain⟨p9,hp9⟩:∃ p,w8.heap.size=p:=⟨_,rfl⟩
     have hk9:Blk w9 p9 34 #[.int .i64 cc.kind,.int .i64 cc.x,.int .i64 cc.y,.int .i64 cc.n,.int .i64 cc.m,.string (nmV cc),.slice A5 cc.cells.length c5,.int .i64 cc.p,.int .i64 cc.dx,.int .i64 cc.dy]:=by rw[← hw9,← hp9];exact Blk.new _ _ _
     have hb9:Below w3.heap.size w3 w9:=by rw[← hw9];exact hb8.alloc hb8.size _
     have HB9:=hid (HB3.out.trans (hb9.mono HB3.out.size));have HBW9:=hid (HBW3.out.trans (hb9.mono HBW3.out.size));have HO9:=hid (HO3.out.ext hb9);have HC5:Hid (Cls w9 A5 cc.cells):=hid (hc5.ext (by rw[← hw9];exact below_new _ _));have HN5:Hid (∀ ad,A5=some ad→u6.ownBlock≠some ad.block):=hid (fun ad e e2=>by
      have h1:=hn5 ad e;have h2:=HO3.out.blk_lt e2;omega)
     have HK9:=hid hk9;clear hc5 hn5 hb8 hb9 hk9 HCM;by_cases her:er=0
     ·subst her;have de:((0:Int) != 0)=false:=rfl;have HN:Hid (runS (k+1) (acc ++ [cc]) ((wdL ms).drop (k+1))=r):=hid (by rw[← HT.out,HAT3.out,if_neg (by simp)]);have hown:=HO9.out;have hcl:=HC5.out;have hna:=HN5.out;have hal:acc.length < 4294967296:=by have:=HAC.out;have:=HL2.out;omega
      have hbs:w1.heap.size≤w9.heap.size:=HB9.out.size;have HL9:Hid ((acc ++ [cc]).length≤k+1):=hid (by rw[List.length_append];have:=HAC.out;show acc.length+1≤k+1;omega);have z0:w9.cell? ⟨p9,0,none⟩=some (.int .i64 cc.kind):=HK9.out.cell_ 0 _ rfl;have z1:w9.cell? ⟨p9,1,none⟩=some (.int .i64 cc.x):=HK9.out.cell_ 1 _ rfl;have z2:w9.cell? ⟨p9,2,none⟩=some (.int .i64 cc.y):=HK9.out.cell_ 2 _ rfl;have z3:w9.cell? ⟨p9,3,none⟩=some (.int .i64 cc.n):=HK9.out.cell_ 3 _ rfl;have z4:w9.cell? ⟨p9,4,none⟩=some (.int .i64 cc.m):=HK9.out.cell_ 4 _ rfl;have z5:w9.cell? ⟨p9,5,none⟩=some (.string (nmV cc)):=HK9.out.cell_ 5 _ rfl;have z6:w9.cell? ⟨p9,6,none⟩=some (.slice A5 cc.cells.length c5):=HK9.out.cell_ 6 _ rfl;have z7:w9.cell? ⟨p9,7,none⟩=some (.int .i64 cc.p):=HK9.out.cell_ 7 _ rfl;have z8:w9.cell? ⟨p9,8,none⟩=some (.int .i64 cc.dx):=HK9.out.cell_ 8 _ rfl;have z9:w9.cell? ⟨p9,9,none⟩=some (.int .i64 cc.dy):=HK9.out.cell_ 9 _ rfl;clear HAT3 HAC HO9 HC5 HN5;go_upto_region 17 with fail
      (try rw[hw9]);(try rw[hp9]);clear hw9 hp9;go_wp2_with (at_builtin;refine wpList_pushK rfl _ _ _ rfl w1.heap.size Tryz.underlying23 u6 acc rfl hown cc A5 c5 hcl hna rfl hal hbs ?_);intro v' w10 ho10 hb10;have HO10:=hid ho10;have HB10:=hid (HB9.out.trans hb10);clear ho10 hb10 hown hcl hna hal hbs;go_wp2;go_roundw
      case rel=>exact⟨k+1,acc ++ [cc],HLT.out,(by first | rfl | (rw[hwk];rfl)),HB10,HO10,HL9,HN⟩
      case measure=>(try rw[hwk]);exact meas_step5b HLT.out
     ·have de:(er == 0)=false:=by simpa using her
      have de2:(er != 0)=true:=by simpa using her
      have HN:Hid (r=([],(k:Int)+1,er)):=hid (by rw[← HT.out,HAT3.out,if_pos her]);clear her HAT3;go_wp2;go_ret3;exact RetSc.bad (by rw[hwk];exact HN.out) HBW9.out
   ·have hek:k=ms.length:=by omega
    have HRE:Hid (r=(acc,0,0)):=hid (by
     rw[← HT.out,List.drop_eq_nil_of_le (by rw[wdL_len];omega)];rfl)
    have dk:decide ((k:Int) < ms.length)=false:=decide_eq_false (by omega);have hnlt:¬ k < ms.length:=hlt;have HC:=hid HO.out.cms;clear hek hlt HT HO;go_wp2;go_ret3;exact RetSc.good HRE.out HC.out HBW.out
 ·rw[decide_eq_false hz0] at dn;obtain⟨ms,hms⟩:∃ m,m=ls:=⟨_,rfl⟩
  have HMS:Hid (Sts w1 (some ⟨lb,lo,none⟩) ms):=hid (by rw[hms];exact HLS.out);have HMW:Hid (wdL ms=linesP l):=hid (by rw[HLL.out,if_neg hz0,hms]);have HML:Hid (ms.length=(linesP l).length):=hid (by rw[← HMW.out,wdL_len]);clear hz0;go_upto_region 6 with fail
  rw[← hms];clear hms hsub hgt cl dn hn2 hpos hp HLS HLL;by_cases h2:200 < ms.length
  ·have d2:decide ((200:Int) < (ms.length:Int))=true:=decide_eq_true (by omega);have HN:Hid (r=([],0,6)):=hid (by rw[HR.out];unfold scrP;rw[if_neg H1.out,if_pos (by rw[← HML.out];exact h2)]);go_wp2;go_ret3;exact RetSc.bad HN.out HB1.out
  have d2:decide ((200:Int) < (ms.length:Int))=false:=decide_eq_false (by omega);have HRS:Hid (runS 0 [] (wdL ms)=r):=hid (by rw[HR.out,HMW.out];unfold scrP;rw[if_neg H1.out,if_neg (by rw[← HML.out];exact h2)]);have HL2:Hid (ms.length≤200):=hid (by omega);have HPT:Hid (∀ p ∈ wdL ms,p.length≤70000):=hid (fun p hp=>by
   rw[HMW.out] at hp;exact Nat.le_trans (lines_part l p hp) HS.out)
  have h2b:¬ 200 < ms.length:=h2;clear h2;go_wp2;clear d2 h2b;go_loopw [6,7] (fun ov iv wr=>∃ (k:Nat) (acc:List Cmd),k≤ms.length∧iv=.int .i64 k∧Hid (Below w1.heap.size w1 wr)∧Hid (OwnK wr w1.heap.size ov acc)∧Hid (acc.length≤k)∧Hid (runS k acc ((wdL ms).drop k)=r)) (fun _ iv _=>ms.length - (intOf iv).toNat)
  case atStart=>exact⟨0,[],Nat.zero_le _,rfl,hid (Below.refl _ _),hid (OwnK.nil _ _),hid (Nat.le_refl _),HRS⟩
  case round=>
   obtain⟨k,acc,hk,rfl,HBq,HO,HAC,HT⟩:=hrel;have hwk:wrap64 ((k:Int)+1)=(k:Int)+1:=by have:=HL2.out;unfold wrap64;omega
   have HBW:=hid (HB1.out.trans (HBq.out.mono HB1.out.size));by_cases hlt:k < ms.length
   ·obtain⟨lb,lo,e1,-,cl⟩:=(HMS.out.ext HBq.out).at_ hlt;injection e1 with e1
    injection e1 with e1 e2
    subst e1 e2;have hkw:k < (wdL ms).length:=by rw[wdL_len];exact hlt
    have hat:=runS_at hkw acc;have hwl:(wdL ms)[k]=ms[k].data.toList:=wdL_at hlt hkw;have hpt:=HPT.out _ (List.getElem_mem hkw);rw[hwl] at hat hpt;obtain⟨y,hy⟩:∃ y,y=ms[k]:=⟨_,rfl⟩
    rw[← hy] at cl hat hpt;have hys:y.size=y.data.toList.length:=Array.length_toList.symm;have HAT:=hid hat;have HPY:=hid hpt;have HLT:=hid hlt;have HSP:=hid (rwords_any y wr (by omega));clear hy hat hpt hwl hkw hys;go_wp2_with (go_at_call 30;refine HSP.out.mono ?_;rintro e w3 ⟨WA,wc,bs,rfl,hbs,hbw,hb7,hb3⟩;refine Hid.out ?_);refine hid ?_;have HB3:=hid (HBq.out.trans (hb3.mono HBq.out.size));have HBW3:=hid (HBW.out.trans (hb3.mono HBW.out.size));have HO3:=hid (HO.out.ext hb3);have HBS:=hid hbs;have HBX:=hid hbw;have HB7:=hid hb7;clear hbs hbw hb7 hb3 HSP HO HBq HBW;by_cases h0:bs.length=0
    ·have e0:((bs.length:Int) == 0)=true:=by rw[h0];rfl
     have hw0:wordsOf y.data.toList=[]:=by rw[← HBX.out,List.length_eq_zero_iff.1 h0];rfl
     have HN:Hid (runS (k+1) acc ((wdL ms).drop (k+1))=r):=hid (by rw[← HT.out,HAT.out,cmdL_empty hw0]);clear h0 hw0;go_wp2;go_roundw
     case rel=>exact⟨k+1,acc,HLT.out,(by first | rfl | (rw[hwk];rfl)),HB3,HO3,hid (Nat.le_succ_of_le HAC.out),HN⟩
     case measure=>(try rw[hwk]);exact meas_step5b HLT.out
    ·have e0:((bs.length:Int) == 0)=false:=beq_false_of_ne (by omega);have hw0:wordsOf y.data.toList≠[]:=by
      rw[← HBX.out];intro e;have:=congrArg List.length e;rw[wdL_len] at this;exact h0 this
     have hcl:=cmdL_words2 hw0;obtain⟨ws,hws⟩:∃ x,x=wordsOf y.data.toList:=⟨_,rfl⟩
     have HWP:Hid (∀ b ∈ bs,b.data.toList.length≤70000):=hid (fun b hb=>by
      have h1:b.data.toList ∈ wdL bs:=List.mem_map_of_mem hb;rw[HBX.out] at h1;exact Nat.le_trans (words_part _ _ h1) HPY.out)
     rw[← hws] at hcl HBX;have hcm:=rcommand_any WA wc bs w3 HBS.out (by have:=HB7.out;omega) (fun b hb=>by have:=HWP.out b hb;omega);rw[HBX.out] at hcm;have hcw:cmdL y.data.toList=some (cmdW ws):=by rw[hcl];unfold cmdW;cases formOf ws <;> rfl
     have hat:=HAT.out;rw[hcw] at hat;obtain⟨rc,hrc⟩:∃ x,x=cmdW ws:=⟨_,rfl⟩
     rw[← hrc] at hcm hat;obtain⟨cc,er⟩:=rc;unfold RetCm cmdV at hcm;dsimp only at hcm hat;have HCM:=hid hcm;have HAT3:=hid hat;clear h0 hw0 hcl hws hcw hrc hat hcm HAT;go_wp2_with (go_at_call 31;refine HCM.out.mono ?_;rintro e w8 ⟨A5,c5,rfl,hc5,hn5,hb8⟩;refine Hid.out ?_);refine hid ?_;obtain⟨w9,hw9⟩:∃ W,w8.alloc (.cells #[.int .i64 cc.kind,.int .i64 cc.x,.int .i64 cc.y,.int .i64 cc.n,.int .i64 cc.m,.string (nmV cc),.slice A5 cc.cells.length c5,.int .i64 cc.p,.int .i64 cc.dx,.int .i64 cc.dy] 34)=W:=⟨_,rfl⟩
     obtain⟨p9,hp9⟩:∃ p,w8.heap.size=p:=⟨_,rfl⟩
     have hk9:Blk w9 p9 34 #[.int .i64 cc.kind,.int .i64 cc.x,.int .i64 cc.y,.int .i64 cc.n,.int .i64 cc.m,.string (nmV cc),.slice A5 cc.cells.length c5,.int .i64 cc.p,.int .i64 cc.dx,.int .i64 cc.dy]:=by rw[← hw9,← hp9];exact Blk.new _ _ _
     have hb9:Below w3.heap.size w3 w9:=by rw[← hw9];exact hb8.alloc hb8.size _
     have HB9:=hid (HB3.out.trans (hb9.mono HB3.out.size));have HBW9:=hid (HBW3.out.trans (hb9.mono HBW3.out.size));have HO9:=hid (HO3.out.ext hb9);have HC5:Hid (Cls w9 A5 cc.cells):=hid (hc5.ext (by rw[← hw9];exact below_new _ _));have HN5:Hid (∀ ad,A5=some ad→u6.ownBlock≠some ad.block):=hid (fun ad e e2=>by
      have h1:=hn5 ad e;have h2:=HO3.out.blk_lt e2;omega)
     have HK9:=hid hk9;clear hc5 hn5 hb8 hb9 hk9 HCM;by_cases her:er=0
     ·subst her;have de:((0:Int) != 0)=false:=rfl;have HN:Hid (runS (k+1) (acc ++ [cc]) ((wdL ms).drop (k+1))=r):=hid (by rw[← HT.out,HAT3.out,if_neg (by simp)]);have hown:=HO9.out;have hcl:=HC5.out;have hna:=HN5.out;have hal:acc.length < 4294967296:=by have:=HAC.out;have:=HL2.out;omega
      have hbs:w1.heap.size≤w9.heap.size:=HB9.out.size;have HL9:Hid ((acc ++ [cc]).length≤k+1):=hid (by rw[List.length_append];have:=HAC.out;show acc.length+1≤k+1;omega);have z0:w9.cell? ⟨p9,0,none⟩=some (.int .i64 cc.kind):=HK9.out.cell_ 0 _ rfl;have z1:w9.cell? ⟨p9,1,none⟩=some (.int .i64 cc.x):=HK9.out.cell_ 1 _ rfl;have z2:w9.cell? ⟨p9,2,none⟩=some (.int .i64 cc.y):=HK9.out.cell_ 2 _ rfl;have z3:w9.cell? ⟨p9,3,none⟩=some (.int .i64 cc.n):=HK9.out.cell_ 3 _ rfl;have z4:w9.cell? ⟨p9,4,none⟩=some (.int .i64 cc.m):=HK9.out.cell_ 4 _ rfl;have z5:w9.cell? ⟨p9,5,none⟩=some (.string (nmV cc)):=HK9.out.cell_ 5 _ rfl;have z6:w9.cell? ⟨p9,6,none⟩=some (.slice A5 cc.cells.length c5):=HK9.out.cell_ 6 _ rfl;have z7:w9.cell? ⟨p9,7,none⟩=some (.int .i64 cc.p):=HK9.out.cell_ 7 _ rfl;have z8:w9.cell? ⟨p9,8,none⟩=some (.int .i64 cc.dx):=HK9.out.cell_ 8 _ rfl;have z9:w9.cell? ⟨p9,9,none⟩=some (.int .i64 cc.dy):=HK9.out.cell_ 9 _ rfl;clear HAT3 HAC HO9 HC5 HN5;go_upto_region 17 with fail
      (try rw[hw9]);(try rw[hp9]);clear hw9 hp9;go_wp2_with (at_builtin;refine wpList_pushK rfl _ _ _ rfl w1.heap.size Tryz.underlying23 u6 acc rfl hown cc A5 c5 hcl hna rfl hal hbs ?_);intro v' w10 ho10 hb10;have HO10:=hid ho10;have HB10:=hid (HB9.out.trans hb10);clear ho10 hb10 hown hcl hna hal hbs;go_wp2;go_roundw
      case rel=>exact⟨k+1,acc ++ [cc],HLT.out,(by first | rfl | (rw[hwk];rfl)),HB10,HO10,HL9,HN⟩
      case measure=>(try rw[hwk]);exact meas_step5b HLT.out
     ·have de:(er == 0)=false:=by simpa using her
      have de2:(er != 0)=true:=by simpa using her
      have HN:Hid (r=([],(k:Int)+1,er)):=hid (by rw[← HT.out,HAT3.out,if_pos her]);clear her HAT3;go_wp2;go_ret3;exact RetSc.bad (by rw[hwk];exact HN.out) HBW9.out
   ·have hek:k=ms.length:=by omega
    have HRE:Hid (r=(acc,0,0)):=hid (by
     rw[← HT.out,List.drop_eq_nil_of_le (by rw[wdL_len];omega)];rfl)
    have dk:decide ((k:Int) < ms.length)=false:=decide_eq_false (by omega);have hnlt:¬ k < ms.length:=hlt;have HC:=hid HO.out.cms;clear hek hlt HT HO;go_wp2;go_ret3;exact RetSc.good HRE.out HC.out HBW.out
set_option maxHeartbeats 8000000 in
theorem rsame_eq (c:Cmd)(A B:Option Addr)(ka kb:Nat)(w:World)(ha:Cls w A c.cells)(hb:Cls w B c.cells) :
  Calls Tryz.prog 22 #[cmdV c (nmV c) (.slice A c.cells.length ka),cmdV c (nmV c) (.slice B c.cells.length kb)] w fun e w'=>e=.returned (.bool true)∧Below w.heap.size w w':=by
 unfold cmdV;obtain⟨w2,hw2⟩:∃ W,(w.alloc (.cells #[.int .i64 c.kind,.int .i64 c.x,.int .i64 c.y,.int .i64 c.n,.int .i64 c.m,.string (nmV c),.slice A c.cells.length ka,.int .i64 c.p,.int .i64 c.dx,.int .i64 c.dy] 34)).alloc (.cells #[.int .i64 c.kind,.int .i64 c.x,.int .i64 c.y,.int .i64 c.n,.int .i64 c.m,.string (nmV c),.slice B c.cells.length kb,.int .i64 c.p,.int .i64 c.dx,.int .i64 c.dy] 34)=W:=⟨_,rfl⟩
 have hk1:Blk w2 w.heap.size 34 #[.int .i64 c.kind,.int .i64 c.x,.int .i64 c.y,.int .i64 c.n,.int .i64 c.m,.string (nmV c),.slice A c.cells.length ka,.int .i64 c.p,.int .i64 c.dx,.int .i64 c.dy]:=by rw[← hw2];exact (Blk.new w _ _).alloc _
 have hk2:Blk w2 (w.heap.size+1) 34 #[.int .i64 c.kind,.int .i64 c.x,.int .i64 c.y,.int .i64 c.n,.int .i64 c.m,.string (nmV c),.slice B c.cells.length kb,.int .i64 c.p,.int .i64 c.dx,.int .i64 c.dy]:=by
  rw[← hw2];have h:=Blk.new (w.alloc (.cells #[.int .i64 c.kind,.int .i64 c.x,.int .i64 c.y,.int .i64 c.n,.int .i64 c.m,.string (nmV c),.slice A c.cells.length ka,.int .i64 c.p,.int .i64 c.dx,.int .i64 c.dy] 34)) 34 #[.int .i64 c.kind,.int .i64 c.x,.int .i64 c.y,.int .i64 c.n,.int .i64 c.m,.string (nmV c),.slice B c.cells.length kb,.int .i64 c.p,.int .i64 c.dx,.int .i64 c.dy];rw[World.size_alloc] at h;exact h
 have hb2:Below w.heap.size w w2:=by rw[← hw2];exact ((Below.refl _ w).alloc (Nat.le_refl _) _).alloc (by simp) _
 have hs:=rsame_any A B ka kb c.cells c.cells w2 (ha.ext hb2) (hb.ext hb2);rw[show sameC c.cells c.cells=true from decide_eq_true rfl] at hs;have HS:=hid hs;have HK1:=hid hk1;have HK2:=hid hk2;have HB2:=hid hb2;have x0:w2.cell? ⟨w.heap.size,0,none⟩=some (.int .i64 c.kind):=hk1.cell_ 0 _ rfl;have y0:w2.cell? ⟨w.heap.size+1,0,none⟩=some (.int .i64 c.kind):=hk2.cell_ 0 _ rfl;have x1:w2.cell? ⟨w.heap.size,1,none⟩=some (.int .i64 c.x):=hk1.cell_ 1 _ rfl;have y1:w2.cell? ⟨w.heap.size+1,1,none⟩=some (.int .i64 c.x):=hk2.cell_ 1 _ rfl;have x2:w2.cell? ⟨w.heap.size,2,none⟩=some (.int .i64 c.y):=hk1.cell_ 2 _ rfl;have y2:w2.cell? ⟨w.heap.size+1,2,none⟩=some (.int .i64 c.y):=hk2.cell_ 2 _ rfl;have x3:w2.cell? ⟨w.heap.size,3,none⟩=some (.int .i64 c.n):=hk1.cell_ 3 _ rfl;have y3:w2.cell? ⟨w.heap.size+1,3,none⟩=some (.int .i64 c.n):=hk2.cell_ 3 _ rfl;have x4:w2.cell? ⟨w.heap.size,4,none⟩=some (.int .i64 c.m):=hk1.cell_ 4 _ rfl;have y4:w2.cell? ⟨w.heap.size+1,4,none⟩=some (.int .i64 c.m):=hk2.cell_ 4 _ rfl;have x5:w2.cell? ⟨w.heap.size,5,none⟩=some (.string (nmV c)):=hk1.cell_ 5 _ rfl;have y5:w2.cell? ⟨w.heap.size+1,5,none⟩=some (.string (nmV c)):=hk2.cell_ 5 _ rfl;have x6:w2.cell? ⟨w.heap.size,6,none⟩=some (.slice A c.cells.length ka):=hk1.cell_ 6 _ rfl;have y6:w2.cell? ⟨w.heap.size+1,6,none⟩=some (.slice B c.cells.length kb):=hk2.cell_ 6 _ rfl;have x7:w2.cell? ⟨w.heap.size,7,none⟩=some (.int .i64 c.p):=hk1.cell_ 7 _ rfl;have y7:w2.cell? ⟨w.heap.size+1,7,none⟩=some (.int .i64 c.p):=hk2.cell_ 7 _ rfl;have x8:w2.cell? ⟨w.heap.size,8,none⟩=some (.int .i64 c.dx):=hk1.cell_ 8 _ rfl;have y8:w2.cell? ⟨w.heap.size+1,8,none⟩=some (.int .i64 c.dx):=hk2.cell_ 8 _ rfl;have x9:w2.cell? ⟨w.heap.size,9,none⟩=some (.int .i64 c.dy):=hk1.cell_ 9 _ rfl;have y9:w2.cell? ⟨w.heap.size+1,9,none⟩=some (.int .i64 c.dy):=hk2.cell_ 9 _ rfl;have q0:((c.kind:Int) == c.kind)=true:=beq_self_eq_true _;have q1:((c.x:Int) == c.x)=true:=beq_self_eq_true _;have q2:((c.y:Int) == c.y)=true:=beq_self_eq_true _;have q3:((c.n:Int) == c.n)=true:=beq_self_eq_true _;have q4:((c.m:Int) == c.m)=true:=beq_self_eq_true _;clear hs hk1 hk2 hb2 ha hb;go_enter Tryz.func22,Tryz.ntmps22;go_upto_region 1 with fail
 (try rw[hw2]);clear hw2;go_wp2_with (go_at_call 51;refine HS.out.mono ?_;intro e w3 hx;obtain⟨rfl,hb3⟩:=hx;refine Hid.out ?_);refine hid ?_;clear x0 y0 x1 y1 x2 y2 x3 y3 x4 y4 x5 y5 x6 y6 x7 y7 x8 y8 x9 y9;have x7:w3.cell? ⟨w.heap.size,7,none⟩=some (.int .i64 c.p):=(HK1.out.below hb3 HK1.out.lt).cell_ 7 _ rfl;have y7:w3.cell? ⟨w.heap.size+1,7,none⟩=some (.int .i64 c.p):=(HK2.out.below hb3 HK2.out.lt).cell_ 7 _ rfl;have x8:w3.cell? ⟨w.heap.size,8,none⟩=some (.int .i64 c.dx):=(HK1.out.below hb3 HK1.out.lt).cell_ 8 _ rfl;have y8:w3.cell? ⟨w.heap.size+1,8,none⟩=some (.int .i64 c.dx):=(HK2.out.below hb3 HK2.out.lt).cell_ 8 _ rfl;have x9:w3.cell? ⟨w.heap.size,9,none⟩=some (.int .i64 c.dy):=(HK1.out.below hb3 HK1.out.lt).cell_ 9 _ rfl;have y9:w3.cell? ⟨w.heap.size+1,9,none⟩=some (.int .i64 c.dy):=(HK2.out.below hb3 HK2.out.lt).cell_ 9 _ rfl;have HB3:=hid (HB2.out.trans (hb3.mono HB2.out.size));clear hb3;go_wp2;go_ret;exact⟨rfl,HB3.out⟩
set_option maxHeartbeats 8000000 in
theorem requal_eq (l:List Cmd)(v u:Value)(w:World)(hv:CmsA w v l)(hu:CmsA w u l)(hn:l.length≤1000000) :
  Calls Tryz.prog 12 #[v,u] w fun e w'=>e=.returned (.bool true)∧Below w.heap.size w w':=by
 obtain⟨A,ca,rfl⟩:=hv.form;obtain⟨B,cb,rfl⟩:=hu.form;have HV:=hid hv;have HU:=hid hu;have HN:=hid hn;have e0:((l.length:Int) != l.length)=false:=by simp
 clear hv hu hn;go_enter Tryz.func12,Tryz.ntmps12;go_wp2;go_loopw [5] (fun iv wr=>∃ k:Nat,k≤l.length∧iv=.int .i64 k∧Hid (Below w.heap.size w wr)) (fun iv _=>l.length - (intOf iv).toNat)
 case atStart=>exact⟨0,Nat.zero_le _,rfl,hid (Below.refl _ _)⟩
 case round=>
  obtain⟨k,hk,rfl,HB⟩:=hrel;have hwk:wrap64 ((k:Int)+1)=(k:Int)+1:=by have:=HN.out;unfold wrap64;omega
  by_cases hlt:k < l.length
  ·obtain⟨b1,o1,c1,A1,n1,e1,-,h1,x0,x1,x2,x3,x4,x5,x6,x7,x8,x9⟩:=(HV.out.ext HB.out).at_ hlt;obtain⟨b2,o2,c2,A2,n2,e2,-,h2,y0,y1,y2,y3,y4,y5,y6,y7,y8,y9⟩:=(HU.out.ext HB.out).at_ hlt;injection e1 with e1 e3 e4
   injection e2 with e2 e5 e6
   subst e1 e2 e4 e6;obtain⟨c,hc⟩:∃ c,c=l[k]:=⟨_,rfl⟩
   rw[← hc] at h1 h2 x0 y0 x1 y1 x2 y2 x3 y3 x4 y4 x5 y5 x6 y6 x7 y7 x8 y8 x9 y9;have HLT:=hid hlt;have hsm:=rsame_eq c A1 A2 n1 n2 wr.drew (show Cls wr.drew A1 c.cells from h1) (show Cls wr.drew A2 c.cells from h2);unfold cmdV at hsm;have HSM:=hid hsm;clear hc hsm h1 h2;go_upto_region 6 with fail
   go_region_with (go_at_call 22;refine HSM.out.mono ?_;intro e w7 hx;obtain⟨rfl,hb7⟩:=hx;have HB7:=hid hb7;clear hb7)
   all_goals
    have HB9:Hid (Below w.heap.size w w7):=hid (HB.out.trans ((((Below.refl _ wr).drew).trans HB7.out).mono HB.out.size));clear HB7;go_wp2;go_roundw
    case rel=>exact⟨k+1,HLT.out,(by first | rfl | (rw[hwk];rfl)),HB9⟩
    case measure=>(try rw[hwk]);exact meas_step5b HLT.out
  ·have dk:decide ((k:Int) < l.length)=false:=decide_eq_false (by omega);go_wp2;go_ret;exact⟨rfl,HB.out⟩
end Go.Proofs.YtcfelnhmifkelaaGreatDoor
