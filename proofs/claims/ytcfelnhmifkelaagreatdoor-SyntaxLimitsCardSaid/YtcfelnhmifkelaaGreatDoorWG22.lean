/-
  texts LimP56 LawL56: parts of the proof; conditions stand with each theorem.
-/
import Derived.Test.YtcfelnhmifkelaaGreatDoorWG20
import Derived.Test.YtcfelnhmifkelaaGreatDoorWG21
namespace Go.Proofs.YtcfelnhmifkelaaGreatDoor
open Go.RowKit
set_option maxRecDepth 100000
set_option linter.unusedVariables false
set_option linter.unusedSimpArgs false
def cPr:Cmd:=⟨10,0,0,0,0,[],[],0,0,0⟩
def prW:List UInt8:=[112,114,105,110,116]
def prT:Nat→List UInt8
 | 0=>[]
 | n+1=>prT n ++ [112,114,105,110,116,10]
theorem prT_len:∀ n,(prT n).length=6*n
 | 0=>rfl
 | n+1=>by
  rw[prT,List.length_append,prT_len n];show 6*n+6=_;omega
theorem pr_line:lineP cPr=(prW,0):=by kernel_rfl
theorem pr_cmd:cmdL prW=some (cPr,0):=by kernel_rfl
theorem pr_words:wordsOf prW=[prW]:=by kernel_rfl
theorem pr_err:∀ n,errT (List.replicate n cPr)=0
 | 0=>rfl
 | n+1=>by rw[List.replicate_succ,errT,pr_line,if_neg (by simp),pr_err n]
theorem pr_cat:∀ n,catT (List.replicate n cPr)=prT n
 | 0=>rfl
 | n+1=>by
  rw[List.replicate_succ',catT_app,pr_cat n,prT]
  congr 1
theorem pr_text (n:Nat):textP (List.replicate n cPr)=if 200 < n then ([],6) else (prT n,0):=by
 unfold textP;rw[List.length_replicate,pr_err,pr_cat,prT_len];by_cases h:200 < n
 ·rw[if_pos h,if_pos h]
 ·rw[if_neg h,if_neg h,if_neg (by simp),if_neg (by omega)]
theorem pr_split:∀ n,splitC 10 (prT n)=List.replicate n prW ++ [[]]
 | 0=>rfl
 | n+1=>by
  rw[prT,show prT n ++ [112,114,105,110,116,10]=(prT n ++ prW) ++ 10 :: [] by rw[List.append_assoc];rfl,splitC_feed];have h:splitC 10 (prT n ++ prW)=List.replicate n prW ++ [prW]:=by
   cases n with
   | zero=>rfl
   | succ m=>
    rw[prT,show prT m ++ [112,114,105,110,116,10] ++ prW=(prT m ++ prW) ++ 10 :: prW by rw[List.append_assoc,List.append_assoc];rfl,splitC_feed];have h2:=pr_split (m+1);rw[prT,show prT m ++ [112,114,105,110,116,10]=(prT m ++ prW) ++ 10 :: [] by rw[List.append_assoc];rfl,splitC_feed] at h2;have h3:splitC 10 ([]:List UInt8)=[[]]:=rfl;rw[h3] at h2;rw[List.append_cancel_right h2];rfl
  rw[h,List.replicate_succ'];rfl
theorem pr_lines (n:Nat):linesP (prT n)=List.replicate n prW:=by
 unfold linesP;rw[pr_split,List.getLast?_concat,if_pos rfl,List.dropLast_concat]
theorem pr_run:∀ (n i:Nat)(a:List Cmd),runS i a (List.replicate n prW)=(a ++ List.replicate n cPr,0,0)
 | 0,i,a=>by simp[runS]
 | n+1,i,a=>by
  rw[List.replicate_succ,runS,pr_cmd];dsimp only;rw[if_neg (by simp),pr_run n,List.replicate_succ,List.append_assoc];rfl
theorem pr_scr {n:Nat}(h:n≤1000){s:List UInt8}(hl:s.length≤6*n)(hs:linesP s=List.replicate n prW):scrP s=if 200 < n then ([],0,6) else (List.replicate n cPr,0,0):=by
 unfold scrP;rw[if_neg (by omega),hs,List.length_replicate];by_cases h2:200 < n
 ·rw[if_pos h2,if_pos h2]
 ·rw[if_neg h2,if_neg h2,pr_run];rfl
theorem pr_full {n:Nat}(h:n≤1000):scrP (prT n)=if 200 < n then ([],0,6) else (List.replicate n cPr,0,0):=pr_scr h (by rw[prT_len];omega) (pr_lines n)
theorem pr_cut {n:Nat}(h0:0 < n)(h:n≤1000):scrP ((prT n).take (6*n - 1))=if 200 < n then ([],0,6) else (List.replicate n cPr,0,0):=by
 obtain⟨m,rfl⟩:∃ m,n=m+1:=⟨n - 1,by omega⟩
 have e:(prT (m+1)).take (6*(m+1) - 1)=prT m ++ prW:=by
  rw[prT,show prT m ++ [112,114,105,110,116,10]=(prT m ++ prW) ++ [10] by rw[List.append_assoc];rfl,List.take_append_of_le_length (by rw[List.length_append,prT_len];show _≤6*m+5;omega),List.take_of_length_le (by rw[List.length_append,prT_len];show 6*m+5≤_;omega)]
 rw[e];refine pr_scr h (by rw[List.length_append,prT_len];show 6*m+5≤_;omega) ?_;have h1:=pr_lines (m+1);rw[prT,show prT m ++ [112,114,105,110,116,10]=(prT m ++ prW) ++ [10] by rw[List.append_assoc];rfl,linesP_front] at h1;unfold linesP;rw[h1,List.replicate_succ',List.getLast?_concat,if_neg (by decide)]
theorem long_scr {t:List UInt8}(h:∀ b ∈ t,b≠10):scrP ([112,114,105,110,116,32,35] ++ t)=if 65536 < 7+t.length then ([],0,6) else ([cPr],0,0):=by
 have hne:(10:UInt8) ∉ [112,114,105,110,116,32,35] ++ t:=by
  intro hm;rcases List.mem_append.1 hm with h1 | h1
  ·revert h1;decide
  ·exact h 10 h1 rfl
 have hw:wordsOf ([112,114,105,110,116,32,35] ++ t)=[prW]:=by
  have h1:=words_hash prW t;rw[pr_words] at h1;exact h1
 have hc:cmdL ([112,114,105,110,116,32,35] ++ t)=some (cPr,0):=by rw[cmdL_words (m:=prW) (by rw[hw,pr_words]),pr_cmd]
 unfold scrP;rw[List.length_append];show (if 65536 < 7+t.length then _ else _)=_;by_cases h6:65536 < 7+t.length
 ·rw[if_pos h6,if_pos h6]
 ·have hs:linesP ([112,114,105,110,116,32,35] ++ t)=[[112,114,105,110,116,32,35] ++ t]:=by
   unfold linesP;rw[splitC_oneS 10 hne];exact if_neg (by rintro⟨⟩)
  rw[if_neg h6,if_neg h6,hs,if_neg (by show ¬ 200 < 1;decide),runS,hc];dsimp only;rw[if_neg (by simp),runS];rfl
end Go.Proofs.YtcfelnhmifkelaaGreatDoor
namespace Go.Proofs.YtcfelnhmifkelaaGreatDoor
open Lib(hid)
open Go.RowKit
set_option maxRecDepth 100000
set_option linter.unusedVariables false
set_option linter.unusedSimpArgs false
theorem lim_N (K:Nat)(h:K≤4):∃ N:Nat,wrap64 (198+(K:Int))=(N:Int)∧0 < N∧N≤300∧(200 < N ↔ 2 < K):=⟨198+K,by unfold wrap64;omega,by omega,by omega,by omega⟩
theorem lim_M (K:Nat)(h:K≤4):∃ M J:Nat,wrap64 (65534+(K:Int))=(M:Int)∧wrap64 ((M:Int) - 7)=(J:Int)∧J+7=M∧(65536 < 7+J ↔ 2 < K)∧(M≤70000∧8≤M):=⟨65534+K,65527+K,by unfold wrap64;omega,by unfold wrap64;omega,by omega,by omega,by omega⟩
set_option maxHeartbeats 16000000 in
theorem lawL_any (m:Int)(fl:Bool)(w:World)(h0:0≤m)(h255:m≤255)(he:Env56 w):Calls Tryz.prog 6 #[.int .u8 m,.bool fl] w fun e w'=>e=.returned (.bool true)∧Below w.heap.size w w':=by
 obtain⟨K,hK⟩:∃ K:Nat,m % 5=(K:Int):=⟨(m % 5).toNat,by omega⟩
 have hK4:K≤4:=by omega
 obtain⟨N,hwN,hN1,hN2,hN3⟩:=lim_N K hK4;obtain⟨M,J,hwM,hwJ,hJ,hJK,hM⟩:=lim_M K hK4;have HENV:=hid he;have HB:Hid (Below w.heap.size w w):=hid (Below.refl _ _);have HNK:Hid (0 < N∧N≤300):=hid ⟨hN1,hN2⟩;have HNQ:Hid (200 < N ↔ 2 < K):=hid hN3;have HMM:Hid (M≤70000∧8≤M):=hid hM;have HJK:Hid (65536 < 7+J ↔ 2 < K):=hid hJK;have HMJ:=hid hJ;clear he hN1 hN2 hN3 hM hJ hJK hK4;go_enter Tryz.func6,Tryz.ntmps6;go_upto_region 2 with fail
 clear h0 h255 hK;go_wp2;go_loopw [6,7,8] (fun lv sv iv wr=>∃ (k:Nat) (sb:ByteArray),k≤N∧sv=.string sb∧iv=.int .i64 k∧Hid (Below w.heap.size w wr)∧Hid (OwnK wr w.heap.size lv (List.replicate k cPr))∧Hid (sb.data.toList=prT k)) (fun _ _ iv _=>N - (intOf iv).toNat)
 case atStart=>exact⟨0,⟨#[]⟩,Nat.zero_le _,rfl,rfl,HB,hid (OwnK.nil _ _),hid rfl⟩
 case round=>
  clear HB;obtain⟨k,sb,hk,rfl,rfl,HB,HO,HSB⟩:=hrel;have hwk:wrap64 ((k:Int)+1)=(k:Int)+1:=by have:=HNK.out;unfold wrap64;omega
  by_cases hlt:k < N
  ·have hown:=HO.out;have hss:sb.size=6*k:=by rw[Lib.size_eq,HSB.out,prT_len]
   have hm1:¬ 9223372036854775807 < sb.size+6:=by have:=HNK.out;omega
   have hn4:(List.replicate k cPr).length < 4294967296:=by rw[List.length_replicate];have:=HNK.out;omega
   have hbs:w.heap.size≤wr.heap.size:=HB.out.size;have HN:Hid ((sb ++ ⟨#[112,114,105,110,116,10]⟩:ByteArray).data.toList=prT (k+1)):=hid (by rw[ByteArray.data_append,Array.toList_append,HSB.out,prT]);have HLT:=hid hlt;clear hss HO;go_wp2_with (at_builtin;refine wpList_pushK rfl _ _ _ rfl w.heap.size Tryz.underlying23 _ (List.replicate k cPr) rfl hown cPr none 0 Cls.nil (fun ad h=>by cases h) rfl hn4 hbs ?_);intro v' w' ho hb;have HB2:=hid (HB.out.trans hb);have HO2:Hid (OwnK w' w.heap.size v' (List.replicate (k+1) cPr)):=hid (by rw[List.replicate_succ'];exact ho);clear ho hb hown hn4 hbs;go_wp2;go_roundw
   case rel=>exact⟨k+1,_,HLT.out,rfl,(by first | rfl | (rw[hwk];rfl)),HB2,HO2,HN⟩
   case measure=>(try rw[hwk]);exact meas_step5b HLT.out
  ·have hek:N=k:=by omega
   have dk:decide ((k:Int) < (N:Int))=false:=decide_eq_false (by omega);have hnlt:¬ k < N:=hlt;subst hek;have hcl:=HO.out.cms;obtain⟨LA,lc,e⟩:=hcl.form;rw[List.length_replicate] at e;subst e;have HENVo:=HENV;have HENV:=hid (HENVo.out.ext HB.out);have HCL:=hid hcl;clear hcl HO HENVo hlt hwk;cases fl with
   | true=>
    obtain⟨zb,hzb⟩:∃ z,z=sb:=⟨_,rfl⟩
    subst hzb;have HZ:Hid (scrP zb.data.toList=if 200 < N then ([],0,6) else (List.replicate N cPr,0,0)):=hid (by rw[HSB.out];exact pr_full (by have:=HNK.out;omega));have HZS:Hid (zb.data.toList.length≤70000):=hid (by rw[HSB.out,prT_len];have:=HNK.out;omega);go_upto_region 11 with fail
    by_cases h200:200 < N
    ·have HN2:=hid h200;have d2:decide ((2:Int) < (K:Int))=true:=decide_eq_true (by have:=HNQ.out.1 h200;omega);have h2:(2:Int) < (K:Int):=by have:=HNQ.out.1 h200;omega
     clear h200;have hcall:=text56_any (.slice LA N lc) (List.replicate N cPr) wr HENV.out.1 HENV.out.2 HCL.out (fun c hc=>by rw[List.eq_of_mem_replicate hc];exact Nat.zero_le 65536);rw[pr_text,if_pos HN2.out] at hcall;have HTX:=hid hcall;clear hcall;have hcall:=HTX.out;have HCALL:=hid hcall;clear hcall;go_wp2_with (go_at_call 19;refine HCALL.out.mono ?_;intro e x1 hx;obtain⟨rfl,hb⟩:=hx;refine Hid.out ?_);refine hid ?_;replace HB:=hid (HB.out.trans (hb.mono HB.out.size));replace HENV:=hid (HENV.out.ext hb);replace HCL:=hid (HCL.out.ext hb);clear hb HCALL;clear HTX;rw[if_pos HN2.out] at HZ;have hcall:=parse_b zb x1 HENV.out HZ.out rfl HZS.out;have HCALL:=hid hcall;clear hcall;go_wp2_with (go_at_call 10;refine HCALL.out.mono ?_;intro e x2 hx;obtain⟨L2,c2,rfl,hc2,hb⟩:=hx;clear hc2;refine Hid.out ?_);refine hid ?_;replace HB:=hid (HB.out.trans (hb.mono HB.out.size));replace HENV:=hid (HENV.out.ext hb);replace HCL:=hid (HCL.out.ext hb);clear hb HCALL;have HBq:=HB;have HENVq:=HENV;clear HB HENV HCL d2 h2;go_wp2;go_loopw [14] (fun lv wq=>∃ lb:ByteArray,lv=.string lb∧x2=wq∧Hid (∀ b ∈ lb.data.toList,b≠10)∧Hid (1≤lb.size∧lb.size≤140000)) (fun lv _=>match lv with | .string b=>140000 - b.size | _=>0)
     case atStart=>exact⟨_,rfl,rfl,hid (by decide),hid (by decide)⟩
     case round=>
      obtain⟨lb,rfl,rfl,HNF,HLB⟩:=hrel;by_cases hlt:lb.size < M
      ·have dk:decide ((lb.size:Int) < (M:Int))=true:=decide_eq_true (by omega);have hm1:¬ 9223372036854775807 < lb.size+lb.size:=by have:=HLB.out.2;omega
       have HLB2:Hid (1≤(lb ++ lb).size∧(lb ++ lb).size≤140000):=hid (by rw[ByteArray.size_append];have:=HLB.out;have:=HMM.out;omega);have HNF2:Hid (∀ b ∈ (lb ++ lb).data.toList,b≠10):=hid (fun b hb=>by
        rw[ByteArray.data_append,Array.toList_append] at hb;rcases List.mem_append.1 hb with hb | hb <;> exact HNF.out b hb)
       have HMS:Hid (140000 - (lb ++ lb).size < 140000 - lb.size):=hid (by rw[ByteArray.size_append];have:=HLB.out;have:=HMM.out;omega);go_wp2;go_roundw
       case rel=>exact⟨_,rfl,(by first | rfl | trivial),HNF2,HLB2⟩
       case measure=>exact HMS.out
      ·have dk:decide ((lb.size:Int) < (M:Int))=false:=decide_eq_false (by omega);have hJ:J≤lb.size:=by have:=HMJ.out;omega
       have hx:(lb.extract 0 J).data.toList=lb.data.toList.take J:=by rw[piece_toList lb (Nat.zero_le _) hJ,List.drop_zero]
       have hxs:(lb.extract 0 J).size=J:=by rw[Lib.size_eq,hx,List.length_take,← Lib.size_eq];have:=HMJ.out;omega
       obtain⟨t,ht⟩:∃ t,t=lb.extract 0 J:=⟨_,rfl⟩
       rw[← ht] at hx hxs;have hl:(⟨#[112,114,105,110,116,32,35]⟩ ++ t:ByteArray).data.toList=[112,114,105,110,116,32,35] ++ t.data.toList:=by rw[ByteArray.data_append,Array.toList_append]
       have hsc:=long_scr (t:=t.data.toList) (fun b hb=>HNF.out b (by rw[hx] at hb;exact List.mem_of_mem_take hb));rw[← Lib.size_eq,hxs,← hl] at hsc;have hsz:(⟨#[112,114,105,110,116,32,35]⟩ ++ t:ByteArray).data.toList.length≤70000:=by rw[← Lib.size_eq,ByteArray.size_append,hxs];show 7+J≤_;have:=HMJ.out;have:=HMM.out;omega
       have hm1:¬ 9223372036854775807 < 7+t.size:=by rw[hxs];have:=HMJ.out;have:=HMM.out;omega
       have HT:=hid ht;have HSC:=hid hsc;have HSZ:=hid hsz;clear hx hl hsc hsz ht;rw[if_pos (HJK.out.2 (HNQ.out.1 HN2.out))] at HSC;have HB:=HBq;have HENV:=HENVq;clear HBq HENVq;go_upto_region 17 with fail
       rw[← HT.out];have d2:decide ((2:Int) < (K:Int))=true:=decide_eq_true (by have:=HNQ.out.1 HN2.out;omega);have h2:(2:Int) < (K:Int):=of_decide_eq_true d2;have hcall:=parse_b (⟨#[112,114,105,110,116,32,35]⟩ ++ t) x2 HENV.out HSC.out rfl HSZ.out;have HCALL:=hid hcall;clear hcall;go_wp2_with (go_at_call 10;refine HCALL.out.mono ?_;intro e x11 hx;obtain⟨L3,c3,rfl,hc3,hb⟩:=hx;clear hc3;refine Hid.out ?_);refine hid ?_;replace HB:=hid (HB.out.trans (hb.mono HB.out.size));replace HENV:=hid (HENV.out.ext hb);clear hb HCALL;have hcall:=awake_any x11 HENV.out;have HCALL:=hid hcall;clear hcall;go_wp2_with (go_at_call 9;refine HCALL.out.mono ?_;intro e x12 hx;obtain⟨rfl,hb⟩:=hx;refine Hid.out ?_);refine hid ?_;replace HB:=hid (HB.out.trans (hb.mono HB.out.size));replace HENV:=hid (HENV.out.ext hb);clear hb HCALL;go_wp2;go_ret;exact⟨rfl,HB.out⟩
    ·have HN2:=hid h200;have hk2:¬ 2 < K:=fun h=>h200 (HNQ.out.2 h);have d2:decide ((2:Int) < (K:Int))=false:=decide_eq_false (by omega);have h2:¬ (2:Int) < (K:Int):=by omega
     have hw6:wrap64 (6*(N:Int))=((6*N:Nat):Int):=by have:=HNK.out;unfold wrap64;omega
     clear h200 hk2;have hcall:=text56_any (.slice LA N lc) (List.replicate N cPr) wr HENV.out.1 HENV.out.2 HCL.out (fun c hc=>by rw[List.eq_of_mem_replicate hc];exact Nat.zero_le 65536);rw[pr_text,if_neg HN2.out] at hcall;obtain⟨tb,htb⟩:∃ b:ByteArray,b=⟨(prT N).toArray⟩:=⟨_,rfl⟩
     rw[← htb] at hcall;have hts:tb.size=6*N:=by rw[htb];show (prT N).toArray.size=_;rw[List.size_toArray,prT_len]
     clear htb;have HTX:=hid hcall;clear hcall;have hcall:=HTX.out;have HCALL:=hid hcall;clear hcall;go_wp2_with (go_at_call 19;refine HCALL.out.mono ?_;intro e x1 hx;obtain⟨rfl,hb⟩:=hx;refine Hid.out ?_);refine hid ?_;replace HB:=hid (HB.out.trans (hb.mono HB.out.size));replace HENV:=hid (HENV.out.ext hb);replace HCL:=hid (HCL.out.ext hb);clear hb HCALL;clear HTX;rw[if_neg HN2.out] at HZ;have hcall:=parse_b zb x1 HENV.out HZ.out (List.length_replicate) HZS.out;have HCALL:=hid hcall;clear hcall;go_wp2_with (go_at_call 10;refine HCALL.out.mono ?_;intro e x2 hx;obtain⟨L2,c2,rfl,hc2,hb⟩:=hx;clear hc2;refine Hid.out ?_);refine hid ?_;replace HB:=hid (HB.out.trans (hb.mono HB.out.size));replace HENV:=hid (HENV.out.ext hb);replace HCL:=hid (HCL.out.ext hb);clear hb HCALL;have HBq:=HB;have HENVq:=HENV;clear HB HENV HCL d2 h2;go_wp2;go_loopw [14] (fun lv wq=>∃ lb:ByteArray,lv=.string lb∧x2=wq∧Hid (∀ b ∈ lb.data.toList,b≠10)∧Hid (1≤lb.size∧lb.size≤140000)) (fun lv _=>match lv with | .string b=>140000 - b.size | _=>0)
     case atStart=>exact⟨_,rfl,rfl,hid (by decide),hid (by decide)⟩
     case round=>
      obtain⟨lb,rfl,rfl,HNF,HLB⟩:=hrel;by_cases hlt:lb.size < M
      ·have dk:decide ((lb.size:Int) < (M:Int))=true:=decide_eq_true (by omega);have hm1:¬ 9223372036854775807 < lb.size+lb.size:=by have:=HLB.out.2;omega
       have HLB2:Hid (1≤(lb ++ lb).size∧(lb ++ lb).size≤140000):=hid (by rw[ByteArray.size_append];have:=HLB.out;have:=HMM.out;omega);have HNF2:Hid (∀ b ∈ (lb ++ lb).data.toList,b≠10):=hid (fun b hb=>by
        rw[ByteArray.data_append,Array.toList_append] at hb;rcases List.mem_append.1 hb with hb | hb <;> exact HNF.out b hb)
       have HMS:Hid (140000 - (lb ++ lb).size < 140000 - lb.size):=hid (by rw[ByteArray.size_append];have:=HLB.out;have:=HMM.out;omega);go_wp2;go_roundw
       case rel=>exact⟨_,rfl,(by first | rfl | trivial),HNF2,HLB2⟩
       case measure=>exact HMS.out
      ·have dk:decide ((lb.size:Int) < (M:Int))=false:=decide_eq_false (by omega);have hJ:J≤lb.size:=by have:=HMJ.out;omega
       have hx:(lb.extract 0 J).data.toList=lb.data.toList.take J:=by rw[piece_toList lb (Nat.zero_le _) hJ,List.drop_zero]
       have hxs:(lb.extract 0 J).size=J:=by rw[Lib.size_eq,hx,List.length_take,← Lib.size_eq];have:=HMJ.out;omega
       obtain⟨t,ht⟩:∃ t,t=lb.extract 0 J:=⟨_,rfl⟩
       rw[← ht] at hx hxs;have hl:(⟨#[112,114,105,110,116,32,35]⟩ ++ t:ByteArray).data.toList=[112,114,105,110,116,32,35] ++ t.data.toList:=by rw[ByteArray.data_append,Array.toList_append]
       have hsc:=long_scr (t:=t.data.toList) (fun b hb=>HNF.out b (by rw[hx] at hb;exact List.mem_of_mem_take hb));rw[← Lib.size_eq,hxs,← hl] at hsc;have hsz:(⟨#[112,114,105,110,116,32,35]⟩ ++ t:ByteArray).data.toList.length≤70000:=by rw[← Lib.size_eq,ByteArray.size_append,hxs];show 7+J≤_;have:=HMJ.out;have:=HMM.out;omega
       have hm1:¬ 9223372036854775807 < 7+t.size:=by rw[hxs];have:=HMJ.out;have:=HMM.out;omega
       have HT:=hid ht;have HSC:=hid hsc;have HSZ:=hid hsz;clear hx hl hsc hsz ht;rw[if_neg (fun h=>HN2.out (HNQ.out.2 (HJK.out.1 h)))] at HSC;have HB:=HBq;have HENV:=HENVq;clear HBq HENVq;go_upto_region 17 with fail
       rw[← HT.out];have d2:decide ((2:Int) < (K:Int))=false:=decide_eq_false (by have h:¬ 2 < K:=fun h=>HN2.out (HNQ.out.2 h);omega);have h2:¬ (2:Int) < (K:Int):=of_decide_eq_false d2;have hcall:=parse_b (⟨#[112,114,105,110,116,32,35]⟩ ++ t) x2 HENV.out HSC.out rfl HSZ.out;have HCALL:=hid hcall;clear hcall;go_wp2_with (go_at_call 10;refine HCALL.out.mono ?_;intro e x11 hx;obtain⟨L3,c3,rfl,hc3,hb⟩:=hx;clear hc3;refine Hid.out ?_);refine hid ?_;replace HB:=hid (HB.out.trans (hb.mono HB.out.size));replace HENV:=hid (HENV.out.ext hb);clear hb HCALL;have hcall:=awake_any x11 HENV.out;have HCALL:=hid hcall;clear hcall;go_wp2_with (go_at_call 9;refine HCALL.out.mono ?_;intro e x12 hx;obtain⟨rfl,hb⟩:=hx;refine Hid.out ?_);refine hid ?_;replace HB:=hid (HB.out.trans (hb.mono HB.out.size));replace HENV:=hid (HENV.out.ext hb);clear hb HCALL;go_wp2;go_ret;exact⟨rfl,HB.out⟩
   | false=>
    have hsz:sb.size=6*N:=by rw[Lib.size_eq,HSB.out,prT_len]
    have hws:wrap64 ((sb.size:Int) - 1)=((6*N - 1:Nat):Int):=by have:=HNK.out;rw[hsz];unfold wrap64;omega
    obtain⟨J1,hJ1⟩:∃ j,j=6*N - 1:=⟨_,rfl⟩
    rw[← hJ1] at hws;have hjs:J1≤sb.size:=by omega
    have hx:(sb.extract 0 J1).data.toList=sb.data.toList.take J1:=by rw[piece_toList sb (Nat.zero_le _) hjs,List.drop_zero]
    rw[HSB.out] at hx;obtain⟨zb,hzb⟩:∃ z,z=sb.extract 0 J1:=⟨_,rfl⟩
    rw[← hzb] at hx;have HZ:Hid (scrP zb.data.toList=if 200 < N then ([],0,6) else (List.replicate N cPr,0,0)):=hid (by rw[hx,hJ1];exact pr_cut (by have:=HNK.out;omega) (by have:=HNK.out;omega));have HZS:Hid (zb.data.toList.length≤70000):=hid (by rw[hx,List.length_take,prT_len];have:=HNK.out;omega);have HZB:=hid hzb;clear hx hzb hJ1 hsz;go_upto_region 11 with fail
    rw[← HZB.out];clear hws hjs;by_cases h200:200 < N
    ·have HN2:=hid h200;have d2:decide ((2:Int) < (K:Int))=true:=decide_eq_true (by have:=HNQ.out.1 h200;omega);have h2:(2:Int) < (K:Int):=by have:=HNQ.out.1 h200;omega
     clear h200;have hcall:=text56_any (.slice LA N lc) (List.replicate N cPr) wr HENV.out.1 HENV.out.2 HCL.out (fun c hc=>by rw[List.eq_of_mem_replicate hc];exact Nat.zero_le 65536);rw[pr_text,if_pos HN2.out] at hcall;have HTX:=hid hcall;clear hcall;have hcall:=HTX.out;have HCALL:=hid hcall;clear hcall;go_wp2_with (go_at_call 19;refine HCALL.out.mono ?_;intro e x1 hx;obtain⟨rfl,hb⟩:=hx;refine Hid.out ?_);refine hid ?_;replace HB:=hid (HB.out.trans (hb.mono HB.out.size));replace HENV:=hid (HENV.out.ext hb);replace HCL:=hid (HCL.out.ext hb);clear hb HCALL;clear HTX;rw[if_pos HN2.out] at HZ;have hcall:=parse_b zb x1 HENV.out HZ.out rfl HZS.out;have HCALL:=hid hcall;clear hcall;go_wp2_with (go_at_call 10;refine HCALL.out.mono ?_;intro e x2 hx;obtain⟨L2,c2,rfl,hc2,hb⟩:=hx;clear hc2;refine Hid.out ?_);refine hid ?_;replace HB:=hid (HB.out.trans (hb.mono HB.out.size));replace HENV:=hid (HENV.out.ext hb);replace HCL:=hid (HCL.out.ext hb);clear hb HCALL;have HBq:=HB;have HENVq:=HENV;clear HB HENV HCL d2 h2;go_wp2;go_loopw [14] (fun lv wq=>∃ lb:ByteArray,lv=.string lb∧x2=wq∧Hid (∀ b ∈ lb.data.toList,b≠10)∧Hid (1≤lb.size∧lb.size≤140000)) (fun lv _=>match lv with | .string b=>140000 - b.size | _=>0)
     case atStart=>exact⟨_,rfl,rfl,hid (by decide),hid (by decide)⟩
     case round=>
      obtain⟨lb,rfl,rfl,HNF,HLB⟩:=hrel;by_cases hlt:lb.size < M
      ·have dk:decide ((lb.size:Int) < (M:Int))=true:=decide_eq_true (by omega);have hm1:¬ 9223372036854775807 < lb.size+lb.size:=by have:=HLB.out.2;omega
       have HLB2:Hid (1≤(lb ++ lb).size∧(lb ++ lb).size≤140000):=hid (by rw[ByteArray.size_append];have:=HLB.out;have:=HMM.out;omega);have HNF2:Hid (∀ b ∈ (lb ++ lb).data.toList,b≠10):=hid (fun b hb=>by
        rw[ByteArray.data_append,Array.toList_append] at hb;rcases List.mem_append.1 hb with hb | hb <;> exact HNF.out b hb)
       have HMS:Hid (140000 - (lb ++ lb).size < 140000 - lb.size):=hid (by rw[ByteArray.size_append];have:=HLB.out;have:=HMM.out;omega);go_wp2;go_roundw
       case rel=>exact⟨_,rfl,(by first | rfl | trivial),HNF2,HLB2⟩
       case measure=>exact HMS.out
      ·have dk:decide ((lb.size:Int) < (M:Int))=false:=decide_eq_false (by omega);have hJ:J≤lb.size:=by have:=HMJ.out;omega
       have hx:(lb.extract 0 J).data.toList=lb.data.toList.take J:=by rw[piece_toList lb (Nat.zero_le _) hJ,List.drop_zero]
       have hxs:(lb.extract 0 J).size=J:=by rw[Lib.size_eq,hx,List.length_take,← Lib.size_eq];have:=HMJ.out;omega
       obtain⟨t,ht⟩:∃ t,t=lb.extract 0 J:=⟨_,rfl⟩
       rw[← ht] at hx hxs;have hl:(⟨#[112,114,105,110,116,32,35]⟩ ++ t:ByteArray).data.toList=[112,114,105,110,116,32,35] ++ t.data.toList:=by rw[ByteArray.data_append,Array.toList_append]
       have hsc:=long_scr (t:=t.data.toList) (fun b hb=>HNF.out b (by rw[hx] at hb;exact List.mem_of_mem_take hb));rw[← Lib.size_eq,hxs,← hl] at hsc;have hsz:(⟨#[112,114,105,110,116,32,35]⟩ ++ t:ByteArray).data.toList.length≤70000:=by rw[← Lib.size_eq,ByteArray.size_append,hxs];show 7+J≤_;have:=HMJ.out;have:=HMM.out;omega
       have hm1:¬ 9223372036854775807 < 7+t.size:=by rw[hxs];have:=HMJ.out;have:=HMM.out;omega
       have HT:=hid ht;have HSC:=hid hsc;have HSZ:=hid hsz;clear hx hl hsc hsz ht;rw[if_pos (HJK.out.2 (HNQ.out.1 HN2.out))] at HSC;have HB:=HBq;have HENV:=HENVq;clear HBq HENVq;go_upto_region 17 with fail
       rw[← HT.out];have d2:decide ((2:Int) < (K:Int))=true:=decide_eq_true (by have:=HNQ.out.1 HN2.out;omega);have h2:(2:Int) < (K:Int):=of_decide_eq_true d2;have hcall:=parse_b (⟨#[112,114,105,110,116,32,35]⟩ ++ t) x2 HENV.out HSC.out rfl HSZ.out;have HCALL:=hid hcall;clear hcall;go_wp2_with (go_at_call 10;refine HCALL.out.mono ?_;intro e x11 hx;obtain⟨L3,c3,rfl,hc3,hb⟩:=hx;clear hc3;refine Hid.out ?_);refine hid ?_;replace HB:=hid (HB.out.trans (hb.mono HB.out.size));replace HENV:=hid (HENV.out.ext hb);clear hb HCALL;have hcall:=awake_any x11 HENV.out;have HCALL:=hid hcall;clear hcall;go_wp2_with (go_at_call 9;refine HCALL.out.mono ?_;intro e x12 hx;obtain⟨rfl,hb⟩:=hx;refine Hid.out ?_);refine hid ?_;replace HB:=hid (HB.out.trans (hb.mono HB.out.size));replace HENV:=hid (HENV.out.ext hb);clear hb HCALL;go_wp2;go_ret;exact⟨rfl,HB.out⟩
    ·have HN2:=hid h200;have hk2:¬ 2 < K:=fun h=>h200 (HNQ.out.2 h);have d2:decide ((2:Int) < (K:Int))=false:=decide_eq_false (by omega);have h2:¬ (2:Int) < (K:Int):=by omega
     have hw6:wrap64 (6*(N:Int))=((6*N:Nat):Int):=by have:=HNK.out;unfold wrap64;omega
     clear h200 hk2;have hcall:=text56_any (.slice LA N lc) (List.replicate N cPr) wr HENV.out.1 HENV.out.2 HCL.out (fun c hc=>by rw[List.eq_of_mem_replicate hc];exact Nat.zero_le 65536);rw[pr_text,if_neg HN2.out] at hcall;obtain⟨tb,htb⟩:∃ b:ByteArray,b=⟨(prT N).toArray⟩:=⟨_,rfl⟩
     rw[← htb] at hcall;have hts:tb.size=6*N:=by rw[htb];show (prT N).toArray.size=_;rw[List.size_toArray,prT_len]
     clear htb;have HTX:=hid hcall;clear hcall;have hcall:=HTX.out;have HCALL:=hid hcall;clear hcall;go_wp2_with (go_at_call 19;refine HCALL.out.mono ?_;intro e x1 hx;obtain⟨rfl,hb⟩:=hx;refine Hid.out ?_);refine hid ?_;replace HB:=hid (HB.out.trans (hb.mono HB.out.size));replace HENV:=hid (HENV.out.ext hb);replace HCL:=hid (HCL.out.ext hb);clear hb HCALL;clear HTX;rw[if_neg HN2.out] at HZ;have hcall:=parse_b zb x1 HENV.out HZ.out (List.length_replicate) HZS.out;have HCALL:=hid hcall;clear hcall;go_wp2_with (go_at_call 10;refine HCALL.out.mono ?_;intro e x2 hx;obtain⟨L2,c2,rfl,hc2,hb⟩:=hx;clear hc2;refine Hid.out ?_);refine hid ?_;replace HB:=hid (HB.out.trans (hb.mono HB.out.size));replace HENV:=hid (HENV.out.ext hb);replace HCL:=hid (HCL.out.ext hb);clear hb HCALL;have HBq:=HB;have HENVq:=HENV;clear HB HENV HCL d2 h2;go_wp2;go_loopw [14] (fun lv wq=>∃ lb:ByteArray,lv=.string lb∧x2=wq∧Hid (∀ b ∈ lb.data.toList,b≠10)∧Hid (1≤lb.size∧lb.size≤140000)) (fun lv _=>match lv with | .string b=>140000 - b.size | _=>0)
     case atStart=>exact⟨_,rfl,rfl,hid (by decide),hid (by decide)⟩
     case round=>
      obtain⟨lb,rfl,rfl,HNF,HLB⟩:=hrel;by_cases hlt:lb.size < M
      ·have dk:decide ((lb.size:Int) < (M:Int))=true:=decide_eq_true (by omega);have hm1:¬ 9223372036854775807 < lb.size+lb.size:=by have:=HLB.out.2;omega
       have HLB2:Hid (1≤(lb ++ lb).size∧(lb ++ lb).size≤140000):=hid (by rw[ByteArray.size_append];have:=HLB.out;have:=HMM.out;omega);have HNF2:Hid (∀ b ∈ (lb ++ lb).data.toList,b≠10):=hid (fun b hb=>by
        rw[ByteArray.data_append,Array.toList_append] at hb;rcases List.mem_append.1 hb with hb | hb <;> exact HNF.out b hb)
       have HMS:Hid (140000 - (lb ++ lb).size < 140000 - lb.size):=hid (by rw[ByteArray.size_append];have:=HLB.out;have:=HMM.out;omega);go_wp2;go_roundw
       case rel=>exact⟨_,rfl,(by first | rfl | trivial),HNF2,HLB2⟩
       case measure=>exact HMS.out
      ·have dk:decide ((lb.size:Int) < (M:Int))=false:=decide_eq_false (by omega);have hJ:J≤lb.size:=by have:=HMJ.out;omega
       have hx:(lb.extract 0 J).data.toList=lb.data.toList.take J:=by rw[piece_toList lb (Nat.zero_le _) hJ,List.drop_zero]
       have hxs:(lb.extract 0 J).size=J:=by rw[Lib.size_eq,hx,List.length_take,← Lib.size_eq];have:=HMJ.out;omega
       obtain⟨t,ht⟩:∃ t,t=lb.extract 0 J:=⟨_,rfl⟩
       rw[← ht] at hx hxs;have hl:(⟨#[112,114,105,110,116,32,35]⟩ ++ t:ByteArray).data.toList=[112,114,105,110,116,32,35] ++ t.data.toList:=by rw[ByteArray.data_append,Array.toList_append]
       have hsc:=long_scr (t:=t.data.toList) (fun b hb=>HNF.out b (by rw[hx] at hb;exact List.mem_of_mem_take hb));rw[← Lib.size_eq,hxs,← hl] at hsc;have hsz:(⟨#[112,114,105,110,116,32,35]⟩ ++ t:ByteArray).data.toList.length≤70000:=by rw[← Lib.size_eq,ByteArray.size_append,hxs];show 7+J≤_;have:=HMJ.out;have:=HMM.out;omega
       have hm1:¬ 9223372036854775807 < 7+t.size:=by rw[hxs];have:=HMJ.out;have:=HMM.out;omega
       have HT:=hid ht;have HSC:=hid hsc;have HSZ:=hid hsz;clear hx hl hsc hsz ht;rw[if_neg (fun h=>HN2.out (HNQ.out.2 (HJK.out.1 h)))] at HSC;have HB:=HBq;have HENV:=HENVq;clear HBq HENVq;go_upto_region 17 with fail
       rw[← HT.out];have d2:decide ((2:Int) < (K:Int))=false:=decide_eq_false (by have h:¬ 2 < K:=fun h=>HN2.out (HNQ.out.2 h);omega);have h2:¬ (2:Int) < (K:Int):=of_decide_eq_false d2;have hcall:=parse_b (⟨#[112,114,105,110,116,32,35]⟩ ++ t) x2 HENV.out HSC.out rfl HSZ.out;have HCALL:=hid hcall;clear hcall;go_wp2_with (go_at_call 10;refine HCALL.out.mono ?_;intro e x11 hx;obtain⟨L3,c3,rfl,hc3,hb⟩:=hx;clear hc3;refine Hid.out ?_);refine hid ?_;replace HB:=hid (HB.out.trans (hb.mono HB.out.size));replace HENV:=hid (HENV.out.ext hb);clear hb HCALL;have hcall:=awake_any x11 HENV.out;have HCALL:=hid hcall;clear hcall;go_wp2_with (go_at_call 9;refine HCALL.out.mono ?_;intro e x12 hx;obtain⟨rfl,hb⟩:=hx;refine Hid.out ?_);refine hid ?_;replace HB:=hid (HB.out.trans (hb.mono HB.out.size));replace HENV:=hid (HENV.out.ext hb);clear hb HCALL;go_wp2;go_ret;exact⟨rfl,HB.out⟩
end Go.Proofs.YtcfelnhmifkelaaGreatDoor
