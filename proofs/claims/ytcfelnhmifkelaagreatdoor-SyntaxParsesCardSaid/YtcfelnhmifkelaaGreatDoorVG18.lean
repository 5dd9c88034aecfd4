/-
  texts Rcmd56 Tsp56 Par56: parts of the proof; conditions stand with each theorem.
-/
import Derived.Test.YtcfelnhmifkelaaGreatDoorVG17
import Derived.Test.YtcfelnhmifkelaaGreatDoorVG13
import Derived.Test.YtcfelnhmifkelaaGreatDoorVG12
import Derived.Test.YtcfelnhmifkelaaGreatDoorVG15
import Derived.Test.YtcfelnhmifkelaaGreatDoorVG11
import Derived.BigRegion
import Derived.Test.YtcfelnhmifkelaaGreatDoorVG16
import Derived.Test.YtcfelnhmifkelaaGreatDoorVG5
import Derived.Test.YtcfelnhmifkelaaGreatDoorVG14
import Derived.Lib.Split
import Derived.Lib.SplitLaws
import Derived.Lib.CountLaws
import Derived.Lib.IndexMore
import Derived.Test.YtcfelnhmifkelaaGreatDoorVForms
import Derived.WalkMore
namespace Go.Proofs.YtcfelnhmifkelaaGreatDoor
open Lib(hid)
open Go.RowKit
set_option maxRecDepth 100000
set_option linter.unusedVariables false
set_option linter.unusedSimpArgs false
theorem meas_13 {k:Nat}(h:k≤12):13 - (intOf (.int .i64 ((k:Int)+1))).toNat < 13 - (intOf (.int .i64 (k:Int))).toNat:=by
 show 13 - ((k:Int)+1).toNat < 13 - (k:Int).toNat;omega
theorem few_words {k:Int}(h:k ∈ kinds12):(formR k).length≤9:=by
 have:∀ k ∈ kinds12,(formR k).length≤9:=by decide
 exact this k h
set_option maxHeartbeats 32000000 in
theorem rcommand_any (A:Option Addr)(c:Nat)(bs:List ByteArray)(w:World)(hA:Sts w A bs)(hb6:bs.length≤1000000)(hl31:∀ b ∈ bs,b.data.toList.length≤1000000) :
  Calls Tryz.prog 31 #[.slice A bs.length c] w (RetCm (cmdW (wdL bs)) w):=by
 obtain⟨ws,hws⟩:∃ x,x=wdL bs:=⟨_,rfl⟩
 obtain⟨K0,hk0⟩:∃ x,x=lastK ws 0 kinds12:=⟨_,rfl⟩
 obtain⟨r,hr⟩:∃ r,r=cmdW (wdL bs):=⟨_,rfl⟩
 rw[← hr];have HRR:Hid (r=cmdW ws):=hid (by rw[hr,hws]);have HK:=hid hk0;have HWS:=hid hws;have HA:=hid hA;have HL31:=hid hl31;have HB6:=hid hb6;clear hr hk0 hws hA hl31 hb6;obtain⟨w2,hw2⟩:∃ W,W=(w.alloc (.cells #[.int .i64 0,.int .i64 0,.int .i64 0,.int .i64 0,.int .i64 0,.string ⟨#[]⟩,.slice none 0 0,.int .i64 0,.int .i64 0,.int .i64 0] 34)).alloc (.cells #[.int .i64 0,.int .i64 0,.int .i64 0,.int .i64 0,.int .i64 0,.string ⟨#[]⟩,.slice none 0 0,.int .i64 0,.int .i64 0,.int .i64 0] 34):=⟨_,rfl⟩
 have hz:w2.heap.size=w.heap.size+2:=by rw[hw2];simp
 have hk0:Blk w2 w.heap.size 34 #[.int .i64 0,.int .i64 0,.int .i64 0,.int .i64 0,.int .i64 0,.string ⟨#[]⟩,.slice none 0 0,.int .i64 0,.int .i64 0,.int .i64 0]:=by rw[hw2];exact (Blk.new w _ _).alloc _
 have hk1:Blk w2 (w.heap.size+1) 34 (cmdB { cmd0 with kind:=0 } (.slice none 0 0)):=by
  rw[hw2];have h:=Blk.new (w.alloc (.cells #[.int .i64 0,.int .i64 0,.int .i64 0,.int .i64 0,.int .i64 0,.string ⟨#[]⟩,.slice none 0 0,.int .i64 0,.int .i64 0,.int .i64 0] 34)) 34 #[.int .i64 0,.int .i64 0,.int .i64 0,.int .i64 0,.int .i64 0,.string ⟨#[]⟩,.slice none 0 0,.int .i64 0,.int .i64 0,.int .i64 0];rw[World.size_alloc] at h;exact h
 have hb2:Below w.heap.size w w2:=by rw[hw2];exact ((Below.refl _ w).alloc (Nat.le_refl _) _).alloc (by simp) _
 have HZ:=hid hz;have HK0:=hid hk0;have HK1:=hid hk1;have HB2:=hid hb2;clear hk0 hk1 hb2 hz;go_enter Tryz.func31,Tryz.ntmps31;go_upto_region 2 with fail
 rw[← hw2];clear hw2;go_wp2;go_loopw [5] (fun iv wr=>∃ (k:Nat) (kd:Int),1≤k∧k≤13∧iv=.int .i64 (k:Int)∧Hid (Below (w.heap.size+1) w2 wr)∧Hid (Blk wr (w.heap.size+1) 34 (cmdB { cmd0 with kind:=kd } (.slice none 0 0)))∧Hid (lastK ws kd (kinds12.drop (k - 1))=K0)) (fun iv _=>13 - (intOf iv).toNat)
 case atStart=>exact⟨1,0,by decide,by decide,rfl,hid (Below.refl _ _),HK1,hid HK.out.symm⟩
 case round=>
  obtain⟨k,kd,h1k,hk,rfl,HBq,HKC,HT⟩:=hrel;have hwk:wrap64 ((k:Int)+1)=(k:Int)+1:=by unfold wrap64;omega
  by_cases hlt:k≤12
  ·have dk:decide ((k:Int)≤12)=true:=decide_eq_true (by omega);have HF:=hid (rform_any (k:Int) wr);have hkm:=kind_mem h1k hlt;go_wp2_with (go_at_call 37;refine HF.out.mono ?_;rintro e w5 ⟨FA,fc,rfl,hfs,-,hb5⟩;refine Hid.out ?_);refine hid ?_;have HB5:=hid (HBq.out.trans (hb5.mono (by have:=HKC.out.lt;omega)));have HKC5:=hid (HKC.out.below hb5 HKC.out.lt);have hm:=matches_any A c bs FA fc (baL (formR (k:Int))) w5 (HA.out.ext (HB2.out.trans (HB5.out.mono (by omega)))) hfs HB6.out (by have:=few_words hkm;rw[baL_len];omega) (fun b hb=>by have:=HL31.out b hb;omega) (fun x hx=>by
    unfold baL at hx;obtain⟨f,hf,rfl⟩:=List.mem_map.1 hx;have:=(word_facts _ hkm f hf).2.1;show 0 < f.toArray.size;simpa using this)
   rw[baL_wd,match_kind hkm,← HWS.out] at hm;have HM:=hid hm;have HST:=hid (kinds_step ws kd h1k hlt);clear hm hfs hb5 HF HKC HBq;go_wp2_with (go_at_call 69;refine HM.out.mono ?_;rintro e w6 ⟨rfl,nq,hw6⟩;have HW6:=hid hw6;clear hw6;refine Hid.out ?_);refine hid ?_;have HB6q:Hid (Below (w.heap.size+1) w2 w6):=hid (by rw[HW6.out];exact below_drewN HB5.out _);have HKC6:Hid (Blk w6 (w.heap.size+1) 34 (cmdB { cmd0 with kind:=kd } (.slice none 0 0))):=hid (by rw[HW6.out];exact HKC5.out.drewN _);obtain⟨bv,hbv⟩:∃ b,b=fitsP (formK (k:Int)) ws:=⟨_,rfl⟩
   rw[← hbv] at HST ⊢;clear HW6 hbv HM HKC5 HB5;cases bv with
   | true=>
    have cz:=HKC6.out.cell_ 0 _ rfl;have fz:=HKC6.out.frozen 0;have HKN:Hid (Blk (w6.setCell ⟨w.heap.size+1,0,none⟩ (.int .i64 (k:Int))) (w.heap.size+1) 34 (cmdB { cmd0 with kind:=(k:Int) } (.slice none 0 0))):=hid (HKC6.out.set_ 0 (.int .i64 (k:Int)));have HBN:Hid (Below (w.heap.size+1) w2 (w6.setCell ⟨w.heap.size+1,0,none⟩ (.int .i64 (k:Int)))):=hid (HB6q.out.setCell (p:=⟨w.heap.size+1,0,none⟩) (Nat.le_refl _) _);have HN:Hid (lastK ws (k:Int) (kinds12.drop (k+1 - 1))=K0):=hid (by rw[← HT.out,HST.out,if_pos rfl];rfl);go_wp2;go_roundw
    case rel=>exact⟨k+1,(k:Int),by omega,by omega,(by first | rfl | (rw[hwk];rfl)),HBN,HKN,HN⟩
    case measure=>(try rw[hwk]);exact meas_13 hlt
   | false=>
    have HN:Hid (lastK ws kd (kinds12.drop (k+1 - 1))=K0):=hid (by rw[← HT.out,HST.out,if_neg Bool.false_ne_true];rfl);go_wp2;go_roundw
    case rel=>exact⟨k+1,kd,by omega,by omega,(by first | rfl | (rw[hwk];rfl)),HB6q,HKC6,HN⟩
    case measure=>(try rw[hwk]);exact meas_13 hlt
  ·have dk:decide ((k:Int)≤12)=false:=decide_eq_false (by omega);have hek:k=13:=by omega
   have HKD:Hid (kd=K0):=hid (by rw[← HT.out,hek];exact (kinds_end ws kd).symm);have HK0r:=hid (HK0.out.below HBq.out (by have:=HZ.out;omega));have HB:=hid (HB2.out.trans (HBq.out.mono (by omega)));rw[HKD.out] at HKC;have x0:wr.cell? ⟨w.heap.size+1,0,none⟩=some (.int .i64 K0):=HKC.out.cell_ 0 _ rfl;have HZr:Hid (w.heap.size+2≤wr.heap.size):=hid (by have:=HKC.out.lt;omega);obtain⟨wa,hwa⟩:∃ W,W=wr:=⟨_,rfl⟩
   rw[← hwa] at x0 HB HK0r HKC HZr ⊢;clear hwa HT HBq HK0 HK1 HKD hek;by_cases hz0:K0=0
   ·have d0:(K0 == 0)=true:=by rw[hz0];rfl
    have HNO:=hid (cmdW_none (ws:=ws) (by rw[← HK.out];exact hz0));have k1:=HK0r.out;have hbw:=HB.out;clear hz0;have HN:Hid (r=(cmd0,15)):=hid (by rw[HRR.out];exact HNO.out);have r0:=k1.cell_ 0 _ rfl;have g0:=k1.frozen 0;have r1:=k1.cell_ 1 _ rfl;have g1:=k1.frozen 1;have r2:=k1.cell_ 2 _ rfl;have g2:=k1.frozen 2;have r3:=k1.cell_ 3 _ rfl;have g3:=k1.frozen 3;have r4:=k1.cell_ 4 _ rfl;have g4:=k1.frozen 4;have r5:=k1.cell_ 5 _ rfl;have g5:=k1.frozen 5;have r6:=k1.cell_ 6 _ rfl;have g6:=k1.frozen 6;have r7:=k1.cell_ 7 _ rfl;have g7:=k1.frozen 7;have r8:=k1.cell_ 8 _ rfl;have g8:=k1.frozen 8;have r9:=k1.cell_ 9 _ rfl;have g9:=k1.frozen 9;have HQ1:=hid k1;have HQW:=hid hbw;clear k1 hbw;go_wp2;(try simp only[Exit.inBlock,Exit.then]);refine bodyPost_ret (results_ct56 Tryz.results31 _ _ w.heap.size 34 #[.int .i64 0,.int .i64 0,.int .i64 0,.int .i64 0,.int .i64 0,.string ⟨#[]⟩,.slice none 0 0,.int .i64 0,.int .i64 0,.int .i64 0] (0,0) _ rfl (blk_set10 HQ1.out (.int .i64 0) (.int .i64 0) (.int .i64 0) (.int .i64 0) (.int .i64 0) (.string ⟨#[]⟩) (.slice none 0 0) (.int .i64 0) (.int .i64 0) (.int .i64 0)) Tryz.underlying34 rfl Tryz.sizeCommand) rfl ?_;exact RetCm.bad HN.out (below_set10 HQW.out (Nat.le_refl _) (.int .i64 0) (.int .i64 0) (.int .i64 0) (.int .i64 0) (.int .i64 0) (.string ⟨#[]⟩) (.slice none 0 0) (.int .i64 0) (.int .i64 0) (.int .i64 0))
   ·have d0:(K0 == 0)=false:=beq_false_of_ne hz0;have hsm:=cmdW_some (ws:=ws) (by rw[← HK.out];exact hz0);rw[← HK.out] at hsm;have HKM:Hid (K0 ∈ kinds12):=hid hsm.1;obtain⟨fs,hfs⟩:∃ x,x=formR K0:=⟨_,rfl⟩
    obtain⟨rn,hrn⟩:∃ x,x=rnames fs ws { cmd0 with kind:=K0 }:=⟨_,rfl⟩
    have HMT:Hid (matchTo (formR K0) ws=true):=hid hsm.2.2.2;have HLB:Hid (bs.length=fs.length):=hid (by rw[hfs,← hsm.2.2.1,HWS.out,wdL_len]);have HR:Hid (r=finR fs ws rn):=hid (by rw[HRR.out,hsm.2.1,hrn,hfs];rfl);have HRN0:=hid hrn;have HFSD:=hid hfs;have hf9:=few_words hsm.1;rw[← hfs] at hf9;have HF9:=hid hf9;have HF:=hid (rform_any K0 wa);clear hz0 hsm hrn hfs hf9;go_wp2_with (go_at_call 37;refine HF.out.mono ?_;rintro e w5 ⟨FA,fc,rfl,hfss,hfn,hb5⟩;refine Hid.out ?_);refine hid ?_;have HB5:=hid (HB.out.trans (hb5.mono HB.out.size));have HKC5:=hid (HKC.out.below hb5 HKC.out.lt);have HK05:=hid (HK0r.out.below hb5 HK0r.out.lt);have HFN:Hid (∀ ad,FA=some ad→ad.block≠w.heap.size+1):=hid (fun ad e=>by have h1:=hfn ad e;have h2:=HZr.out;omega);have HZ5:Hid (w.heap.size+2≤w5.heap.size):=hid (Nat.le_trans HZr.out hb5.size);rw[← HFSD.out] at hfss ⊢;obtain⟨fb,hfb⟩:∃ x,x=baL fs:=⟨_,rfl⟩
    rw[← hfb] at hfss ⊢;have HFB:=hid hfb;have HFL:Hid (fb.length=fs.length):=hid (by rw[hfb,baL_len]);have HFS:=hid hfss;clear hfss hfb hb5 hfn HF HKC HK0r HZr HB x0 d0 dk hlt hk h1k hwk;obtain⟨wa,hwa⟩:∃ W,W=w5:=⟨_,rfl⟩
    rw[← hwa] at HB5 HKC5 HK05 HZ5 HFS ⊢;clear hwa;have HBa:=HB5;have HK0a:=HK05;clear HB5 HK05;go_wp2;go_loopw [7] (fun iv wr=>∃ (k:Nat) (cc:Cmd),k≤fb.length∧iv=.int .i64 k∧Hid (Ob (w.heap.size+1) wa wr)∧Hid (Blk wr (w.heap.size+1) 34 (cmdB cc (.slice none 0 0)))∧Hid (cc.cells=[]∧rnames (fs.drop k) (ws.drop k) cc=rn)) (fun iv _=>fb.length - (intOf iv).toNat)
    case atStart=>exact⟨0,_,Nat.zero_le _,rfl,hid (Ob.refl _ _),HKC5,hid ⟨rfl,HRN0.out.symm⟩⟩
    case round=>
     clear HKC5 HRN0;obtain⟨k,cc,hk,rfl,HBq,HKC,HT⟩:=hrel;have hwk:wrap64 ((k:Int)+1)=(k:Int)+1:=by have:=HFL.out;have:=HF9.out;unfold wrap64;omega
     have HB:=hid (HBa.out.trans (HBq.out.low (B:=w.heap.size) (by omega) (by have:=HZ5.out;omega)));have HFSr:=hid (HBq.out.sts HFS.out HFN.out);by_cases hlt:k < fb.length
     ·have hkf:k < fs.length:=by have:=HFL.out;omega
      have hkb:k < bs.length:=by have:=HLB.out;omega
      have hkw:k < ws.length:=by rw[HWS.out,wdL_len];exact hkb
      obtain⟨fbb,fbo,rfl,hfl,cf⟩:=HFSr.out.at_ hlt;obtain⟨lb,lo,rfl,hll,cw⟩:=(HA.out.ext HB.out).at_ hkb;have hzf:(fb[k]'hlt)=⟨(fs[k]'hkf).toArray⟩:=by have:=HFB.out;subst this;exact baL_at hlt hkf
      have hwf:=word_facts K0 HKM.out (fs[k]'hkf) (by rw[← HFSD.out];exact List.getElem_mem hkf);have hyw:(ws[k]'hkw)=(bs[k]'hkb).data.toList:=by have:=HWS.out;subst this;exact wdL_at hkb hkw
      have hat:=rnames_at (fs:=fs) (ws:=ws) hkf hkw cc;have hy31:=HL31.out _ (List.getElem_mem hkb);have hmn:=match_num HMT.out k (by rw[← HFSD.out];exact hkf) hkw;have hfsk:(formR K0)[k]'(by rw[← HFSD.out];exact hkf)=fs[k]'hkf:=by have:=HFSD.out;subst this;rfl
      rw[hfsk,hyw] at hmn;obtain⟨f,hf⟩:∃ f,f=fs[k]'hkf:=⟨_,rfl⟩
      obtain⟨y,hy⟩:∃ y,y=bs[k]'hkb:=⟨_,rfl⟩
      rw[hyw] at hat;rw[← hf] at hzf hwf hat hmn;rw[← hy] at cw hat hy31 hmn;obtain⟨z,hz⟩:∃ z,z=fb[k]'hlt:=⟨_,rfl⟩
      rw[← hz] at cf hzf;have HNM:Hid (f ∈ formR K0):=hid (by rw[hf,← HFSD.out];exact List.getElem_mem hkf);have HAT:=hid hat;have HLT:=hid hlt;have HY:=hid hy31;have HWF:=hid hwf;have HZF:=hid hzf;have HMN:=hid hmn;have hzl:z.data.toList=f:=by rw[hzf]
      have dz82:=str_eq56 z [82];have dz78:=str_eq56 z [78];have dz67:=str_eq56 z [67];rw[hzl] at dz82 dz78 dz67;have HZL:=hid hzl;have HCF:=hid cf;have HCW:=hid cw;clear hf hy hz hat hy31 hwf hzf hmn hfsk hyw hzl;by_cases h82:f=[82]
      ·have hk0:(slotR f).k=1:=of_decide_eq_true (by rw[HWF.out.2.2.1];exact decide_eq_true h82);rw[decide_eq_true h82] at dz82;rw[decide_eq_false (by rw[h82];decide)] at dz78 dz67;have HC:=hid (rrule_any y wr (by have:=HY.out;omega));clear h82;go_wp2_with (go_at_call 46;refine HC.out.mono ?_;intro e w7 hx;obtain⟨rfl,hb7⟩:=hx;refine Hid.out ?_);refine hid ?_;have HB7:=hid (HBq.out.below hb7);have HKC7:=hid (HKC.out.below hb7 HKC.out.lt);have cf7:=(hb7.cell (World.block_lt_of_cell? _ _ HCF.out)).trans HCF.out;have cw7:=(hb7.cell (World.block_lt_of_cell? _ _ HCW.out)).trans HCW.out;clear hb7 HC HKC cf cw;obtain⟨bv,hbv⟩:∃ b,b=ruleV y.data.toList:=⟨_,rfl⟩
       rw[← hbv];cases bv with
       | true=>
        have HBN0:badName (slotR f) y.data.toList=false:=by unfold badName;rw[hk0,← hbv];rfl
        have HN:Hid ({ cc with name:=y.data.toList }.cells=[]∧rnames (fs.drop (k+1)) (ws.drop (k+1)) { cc with name:=y.data.toList } = rn):=hid ⟨HT.out.1,by rw[← HT.out.2,HAT.out,HBN0,if_neg Bool.false_ne_true,if_pos (by omega)]⟩;have fz:=HKC7.out.frozen 5;have cz:=HKC7.out.cell_ 5 _ rfl;have HKN:Hid (Blk (w7.setCell ⟨w.heap.size+1,5,none⟩ (.string y)) (w.heap.size+1) 34 (cmdB { cc with name:=y.data.toList } (.slice none 0 0))):=hid (by
         have h:=HKC7.out.set_ 5 (.string y);unfold cmdB nmV at h ⊢;rw[ba_eta];exact h)
        have HBN:Hid (Ob (w.heap.size+1) wa (w7.setCell ⟨w.heap.size+1,5,none⟩ (.string y))):=hid (HB7.out.set 5 _);clear hbv hk0 HBN0;go_wp2;go_roundw
        case rel=>exact⟨k+1,_,HLT.out,(by first | rfl | (rw[hwk];rfl)),HBN,HKN,HN⟩
        case measure=>(try rw[hwk]);exact meas_step5b HLT.out
       | false=>
        have HBN0:badName (slotR f) y.data.toList=true:=by unfold badName;rw[hk0,← hbv];rfl
        have HRN:Hid (rn=none):=hid (by rw[← HT.out.2,HAT.out,if_pos HBN0]);have k1:=HB7.out.blk HK0a.out (by omega);have hbw:=HBa.out.trans (HB7.out.low (B:=w.heap.size) (by omega) (by have:=HZ5.out;omega));clear hbv hk0 HBN0;have HN:Hid (r=(cmd0,7)):=hid (by rw[HR.out,HRN.out];rfl);have r0:=k1.cell_ 0 _ rfl;have g0:=k1.frozen 0;have r1:=k1.cell_ 1 _ rfl;have g1:=k1.frozen 1;have r2:=k1.cell_ 2 _ rfl;have g2:=k1.frozen 2;have r3:=k1.cell_ 3 _ rfl;have g3:=k1.frozen 3;have r4:=k1.cell_ 4 _ rfl;have g4:=k1.frozen 4;have r5:=k1.cell_ 5 _ rfl;have g5:=k1.frozen 5;have r6:=k1.cell_ 6 _ rfl;have g6:=k1.frozen 6;have r7:=k1.cell_ 7 _ rfl;have g7:=k1.frozen 7;have r8:=k1.cell_ 8 _ rfl;have g8:=k1.frozen 8;have r9:=k1.cell_ 9 _ rfl;have g9:=k1.frozen 9;have HQ1:=hid k1;have HQW:=hid hbw;clear k1 hbw;go_wp2;(try simp only[Exit.inBlock,Exit.then]);refine bodyPost_ret (results_ct56 Tryz.results31 _ _ w.heap.size 34 #[.int .i64 0,.int .i64 0,.int .i64 0,.int .i64 0,.int .i64 0,.string ⟨#[]⟩,.slice none 0 0,.int .i64 0,.int .i64 0,.int .i64 0] (0,0) _ rfl (blk_set10 HQ1.out (.int .i64 0) (.int .i64 0) (.int .i64 0) (.int .i64 0) (.int .i64 0) (.string ⟨#[]⟩) (.slice none 0 0) (.int .i64 0) (.int .i64 0) (.int .i64 0)) Tryz.underlying34 rfl Tryz.sizeCommand) rfl ?_;exact RetCm.bad HN.out (below_set10 HQW.out (Nat.le_refl _) (.int .i64 0) (.int .i64 0) (.int .i64 0) (.int .i64 0) (.int .i64 0) (.string ⟨#[]⟩) (.slice none 0 0) (.int .i64 0) (.int .i64 0) (.int .i64 0))
      ·rw[decide_eq_false h82] at dz82;have hk1:(slotR f).k≠1:=by have:=HWF.out.2.2.1;rw[decide_eq_false h82] at this;exact of_decide_eq_false this
       by_cases h78:f=[78]
       ·have hk0:(slotR f).k=2:=of_decide_eq_true (by rw[HWF.out.2.2.2.1];exact decide_eq_true h78);rw[decide_eq_true h78] at dz78;rw[decide_eq_false (by rw[h78];decide)] at dz67;have HC:=hid ((rname_any y wr (by have:=HY.out;omega)).mono (fun e w' h=>(⟨h.1,by rw[h.2];exact Below.refl _ _⟩:_∧Below wr.heap.size wr w')));clear h82 h78 hk1;go_wp2_with (go_at_call 47;refine HC.out.mono ?_;intro e w7 hx;obtain⟨rfl,hb7⟩:=hx;refine Hid.out ?_);refine hid ?_;have HB7:=hid (HBq.out.below hb7);have HKC7:=hid (HKC.out.below hb7 HKC.out.lt);have cf7:=(hb7.cell (World.block_lt_of_cell? _ _ HCF.out)).trans HCF.out;have cw7:=(hb7.cell (World.block_lt_of_cell? _ _ HCW.out)).trans HCW.out;clear hb7 HC HKC cf cw;obtain⟨bv,hbv⟩:∃ b,b=nmW y.data.toList:=⟨_,rfl⟩
        rw[← hbv];cases bv with
        | true=>
         have HBN0:badName (slotR f) y.data.toList=false:=by unfold badName;rw[hk0,← hbv];rfl
         have HN:Hid ({ cc with name:=y.data.toList }.cells=[]∧rnames (fs.drop (k+1)) (ws.drop (k+1)) { cc with name:=y.data.toList } = rn):=hid ⟨HT.out.1,by rw[← HT.out.2,HAT.out,HBN0,if_neg Bool.false_ne_true,if_pos (by omega)]⟩;have fz:=HKC7.out.frozen 5;have cz:=HKC7.out.cell_ 5 _ rfl;have HKN:Hid (Blk (w7.setCell ⟨w.heap.size+1,5,none⟩ (.string y)) (w.heap.size+1) 34 (cmdB { cc with name:=y.data.toList } (.slice none 0 0))):=hid (by
          have h:=HKC7.out.set_ 5 (.string y);unfold cmdB nmV at h ⊢;rw[ba_eta];exact h)
         have HBN:Hid (Ob (w.heap.size+1) wa (w7.setCell ⟨w.heap.size+1,5,none⟩ (.string y))):=hid (HB7.out.set 5 _);clear hbv hk0 HBN0;go_wp2;go_roundw
         case rel=>exact⟨k+1,_,HLT.out,(by first | rfl | (rw[hwk];rfl)),HBN,HKN,HN⟩
         case measure=>(try rw[hwk]);exact meas_step5b HLT.out
        | false=>
         have HBN0:badName (slotR f) y.data.toList=true:=by unfold badName;rw[hk0,← hbv];rfl
         have HRN:Hid (rn=none):=hid (by rw[← HT.out.2,HAT.out,if_pos HBN0]);have k1:=HB7.out.blk HK0a.out (by omega);have hbw:=HBa.out.trans (HB7.out.low (B:=w.heap.size) (by omega) (by have:=HZ5.out;omega));clear hbv hk0 HBN0;have HN:Hid (r=(cmd0,7)):=hid (by rw[HR.out,HRN.out];rfl);have r0:=k1.cell_ 0 _ rfl;have g0:=k1.frozen 0;have r1:=k1.cell_ 1 _ rfl;have g1:=k1.frozen 1;have r2:=k1.cell_ 2 _ rfl;have g2:=k1.frozen 2;have r3:=k1.cell_ 3 _ rfl;have g3:=k1.frozen 3;have r4:=k1.cell_ 4 _ rfl;have g4:=k1.frozen 4;have r5:=k1.cell_ 5 _ rfl;have g5:=k1.frozen 5;have r6:=k1.cell_ 6 _ rfl;have g6:=k1.frozen 6;have r7:=k1.cell_ 7 _ rfl;have g7:=k1.frozen 7;have r8:=k1.cell_ 8 _ rfl;have g8:=k1.frozen 8;have r9:=k1.cell_ 9 _ rfl;have g9:=k1.frozen 9;have HQ1:=hid k1;have HQW:=hid hbw;clear k1 hbw;go_wp2;(try simp only[Exit.inBlock,Exit.then]);refine bodyPost_ret (results_ct56 Tryz.results31 _ _ w.heap.size 34 #[.int .i64 0,.int .i64 0,.int .i64 0,.int .i64 0,.int .i64 0,.string ⟨#[]⟩,.slice none 0 0,.int .i64 0,.int .i64 0,.int .i64 0] (0,0) _ rfl (blk_set10 HQ1.out (.int .i64 0) (.int .i64 0) (.int .i64 0) (.int .i64 0) (.int .i64 0) (.string ⟨#[]⟩) (.slice none 0 0) (.int .i64 0) (.int .i64 0) (.int .i64 0)) Tryz.underlying34 rfl Tryz.sizeCommand) rfl ?_;exact RetCm.bad HN.out (below_set10 HQW.out (Nat.le_refl _) (.int .i64 0) (.int .i64 0) (.int .i64 0) (.int .i64 0) (.int .i64 0) (.string ⟨#[]⟩) (.slice none 0 0) (.int .i64 0) (.int .i64 0) (.int .i64 0))
       ·rw[decide_eq_false h78] at dz78;have hk2:(slotR f).k≠2:=by have:=HWF.out.2.2.2.1;rw[decide_eq_false h78] at this;exact of_decide_eq_false this
        have HBN0:badName (slotR f) y.data.toList=false:=by unfold badName;rw[decide_eq_false hk1,decide_eq_false hk2];rfl
        have HN:Hid (cc.cells=[]∧rnames (fs.drop (k+1)) (ws.drop (k+1)) cc=rn):=hid ⟨HT.out.1,by rw[← HT.out.2,HAT.out,HBN0,if_neg Bool.false_ne_true,if_neg (by omega)]⟩;have HKN:=HKC;have HBN:=HBq;clear h82 h78 hk1 hk2 HBN0;go_wp2;go_roundw
        case rel=>exact⟨k+1,_,HLT.out,(by first | rfl | (rw[hwk];rfl)),HBN,HKN,HN⟩
        case measure=>(try rw[hwk]);exact meas_step5b HLT.out
     ·have hek:k=fb.length:=by omega
      have hekf:fs.drop k=[]:=by rw[hek,HFL.out,List.drop_length]
      have HRS:Hid (rn=some cc):=hid (by rw[← HT.out.2,hekf];exact rnames_end _ _);have HRE:Hid (rfill fs ws cc=r):=hid (by rw[HR.out,HRS.out];rfl);have HC0:Hid (cc.cells=[]):=hid HT.out.1;have dk:decide ((k:Int) < fb.length)=false:=decide_eq_false (by omega);have hnlt:¬ k < fb.length:=hlt;have HK0b:=hid (HBq.out.blk HK0a.out (by omega));have HZb:Hid (w.heap.size+2≤wr.heap.size):=hid (Nat.le_trans HZ5.out HBq.out.size);have HFSb:=HFSr;clear hek hekf hlt HT HBq HBa HK0a HRS HR HFS HZ5 HFSr;obtain⟨wb,hwb⟩:∃ W,W=wr:=⟨_,rfl⟩
      rw[← hwb] at HB HK0b HKC HZb HFSb ⊢;clear hwb;have HBb:=HB;clear HB;go_wp2;clear dk hnlt hk;go_loopw [8] (fun iv wr=>∃ (k:Nat) (cc:Cmd) (A3:Option Addr) (k3:Nat),k≤fb.length∧iv=.int .i64 k∧Hid (Ob (w.heap.size+1) wb wr)∧Hid (Blk wr (w.heap.size+1) 34 (cmdB cc (.slice A3 cc.cells.length k3)))∧Hid (Cls wr A3 cc.cells∧NewA (w.heap.size+2) A3)∧Hid (rfill (fs.drop k) (ws.drop k) cc=r)) (fun iv _=>fb.length - (intOf iv).toNat)
      case atStart=>exact⟨0,cc,none,0,Nat.zero_le _,rfl,hid (Ob.refl _ _),hid (by rw[HC0.out];exact HKC.out),hid ⟨by rw[HC0.out];exact Cls.nil,NewA.none_ _⟩,HRE⟩
      case round=>
       clear HKC HRE HC0;obtain⟨k,cc,A3,k3,hk,rfl,HBq,HKC,HCL,HT⟩:=hrel;have hwk:wrap64 ((k:Int)+1)=(k:Int)+1:=by have:=HFL.out;have:=HF9.out;unfold wrap64;omega
       have HB:=hid (HBb.out.trans (HBq.out.low (B:=w.heap.size) (by omega) (by have:=HZb.out;omega)));have HFSr:=hid (HBq.out.sts HFSb.out HFN.out);by_cases hlt:k < fb.length
       ·have hkf:k < fs.length:=by have:=HFL.out;omega
        have hkb:k < bs.length:=by have:=HLB.out;omega
        have hkw:k < ws.length:=by rw[HWS.out,wdL_len];exact hkb
        obtain⟨fbb,fbo,rfl,hfl,cf⟩:=HFSr.out.at_ hlt;obtain⟨lb,lo,rfl,hll,cw⟩:=(HA.out.ext HB.out).at_ hkb;have hzf:(fb[k]'hlt)=⟨(fs[k]'hkf).toArray⟩:=by have:=HFB.out;subst this;exact baL_at hlt hkf
        have hwf:=word_facts K0 HKM.out (fs[k]'hkf) (by rw[← HFSD.out];exact List.getElem_mem hkf);have hyw:(ws[k]'hkw)=(bs[k]'hkb).data.toList:=by have:=HWS.out;subst this;exact wdL_at hkb hkw
        have hat:=rfill_at (fs:=fs) (ws:=ws) hkf hkw cc;have hy31:=HL31.out _ (List.getElem_mem hkb);have hmn:=match_num HMT.out k (by rw[← HFSD.out];exact hkf) hkw;have hfsk:(formR K0)[k]'(by rw[← HFSD.out];exact hkf)=fs[k]'hkf:=by have:=HFSD.out;subst this;rfl
        rw[hfsk,hyw] at hmn;obtain⟨f,hf⟩:∃ f,f=fs[k]'hkf:=⟨_,rfl⟩
        obtain⟨y,hy⟩:∃ y,y=bs[k]'hkb:=⟨_,rfl⟩
        rw[hyw] at hat;rw[← hf] at hzf hwf hat hmn;rw[← hy] at cw hat hy31 hmn;obtain⟨z,hz⟩:∃ z,z=fb[k]'hlt:=⟨_,rfl⟩
        rw[← hz] at cf hzf;have HNM:Hid (f ∈ formR K0):=hid (by rw[hf,← HFSD.out];exact List.getElem_mem hkf);have HAT:=hid hat;have HLT:=hid hlt;have HY:=hid hy31;have HWF:=hid hwf;have HZF:=hid hzf;have HMN:=hid hmn;have hzl:z.data.toList=f:=by rw[hzf]
        have dz82:=str_eq56 z [82];have dz78:=str_eq56 z [78];have dz67:=str_eq56 z [67];rw[hzl] at dz82 dz78 dz67;have HZL:=hid hzl;have HCF:=hid cf;have HCW:=hid cw;clear hf hy hz hat hy31 hwf hzf hmn hfsk hyw hzl;have hz0:0 < z.size:=by have:=HWF.out.2.1;rw[HZF.out];show 0 < f.toArray.size;simpa using this
        have HNU:=hid (numeric_any z wr hz0);rw[HZL.out] at HNU;obtain⟨nb,hnb⟩:∃ b,b=nmcB f:=⟨_,rfl⟩
        rw[← hnb] at HNU;cases nb with
        | true=>
         have hk4:(slotR f).k=4:=of_decide_eq_true (by rw[HWF.out.1];exact hnb.symm);have hnw:=num_words HKM.out HNM.out hnb.symm;have hok:=HMN.out hnb.symm;have hn67:¬ f=[67]:=by intro e;rw[e] at hnb;revert hnb;decide
         rw[decide_eq_false hn67] at dz67;have HNB:=hid (rnumber_any _ y wr rfl (by have:=HY.out;omega));have HLM:Hid (Calls Tryz.prog 48 #[.string z] wr fun e w'=>e=.returned (.tuple #[.int .i64 (slotR f).lo,.int .i64 (slotR f).hi])∧wr=w'):=hid (by have h:=limits_any hnw wr;unfold LimAt at h;rw[HZF.out];exact h);have HOK:=hid hok;have HNW:=hid hnw;have hat:=HAT.out;rw[if_pos hk4] at hat;have HAT2:=hid hat;clear hk4 hnw hok hn67 hnb hat HAT HWF;go_wp2_with (go_at_call 39;refine HNU.out.mono ?_;rintro e w7 ⟨rfl,hw⟩;rw[← hw];clear hw;refine Hid.out ?_);refine hid ?_;go_wp2_with (go_at_call 70;refine HNB.out.mono ?_;rintro e w7 ⟨v1,rfl,hv1,hv2,hw⟩;rw[hw];clear hw;refine Hid.out ?_);refine hid ?_;have HV1:Hid (v1=(valW y.data.toList).1):=hid (hv1 HOK.out);rw[← HV1.out] at HAT2;clear hv1 hv2;go_wp2_with (go_at_call 48;refine HLM.out.mono ?_;rintro e w7 ⟨rfl,hw⟩;rw[← hw];clear hw;refine Hid.out ?_);refine hid ?_;clear HNB HLM HNU;go_upto_region 23 with fail
         by_cases hr1:v1 < (slotR f).lo
         ·have d1:decide (v1 < (slotR f).lo)=true:=decide_eq_true hr1;have HRX:Hid (r=(cmd0,5)):=hid (by rw[← HT.out,HAT2.out,if_pos (.inl hr1)]);have k1:=HBq.out.blk HK0b.out (by omega);have hbw:=HB.out;clear hr1;have HN:Hid (r=(cmd0,5)):=hid (by exact HRX.out);have r0:=k1.cell_ 0 _ rfl;have g0:=k1.frozen 0;have r1:=k1.cell_ 1 _ rfl;have g1:=k1.frozen 1;have r2:=k1.cell_ 2 _ rfl;have g2:=k1.frozen 2;have r3:=k1.cell_ 3 _ rfl;have g3:=k1.frozen 3;have r4:=k1.cell_ 4 _ rfl;have g4:=k1.frozen 4;have r5:=k1.cell_ 5 _ rfl;have g5:=k1.frozen 5;have r6:=k1.cell_ 6 _ rfl;have g6:=k1.frozen 6;have r7:=k1.cell_ 7 _ rfl;have g7:=k1.frozen 7;have r8:=k1.cell_ 8 _ rfl;have g8:=k1.frozen 8;have r9:=k1.cell_ 9 _ rfl;have g9:=k1.frozen 9;have HQ1:=hid k1;have HQW:=hid hbw;clear k1 hbw;go_wp2;(try simp only[Exit.inBlock,Exit.then]);refine bodyPost_ret (results_ct56 Tryz.results31 _ _ w.heap.size 34 #[.int .i64 0,.int .i64 0,.int .i64 0,.int .i64 0,.int .i64 0,.string ⟨#[]⟩,.slice none 0 0,.int .i64 0,.int .i64 0,.int .i64 0] (0,0) _ rfl (blk_set10 HQ1.out (.int .i64 0) (.int .i64 0) (.int .i64 0) (.int .i64 0) (.int .i64 0) (.string ⟨#[]⟩) (.slice none 0 0) (.int .i64 0) (.int .i64 0) (.int .i64 0)) Tryz.underlying34 rfl Tryz.sizeCommand) rfl ?_;exact RetCm.bad HN.out (below_set10 HQW.out (Nat.le_refl _) (.int .i64 0) (.int .i64 0) (.int .i64 0) (.int .i64 0) (.int .i64 0) (.string ⟨#[]⟩) (.slice none 0 0) (.int .i64 0) (.int .i64 0) (.int .i64 0))
         ·have d1:decide (v1 < (slotR f).lo)=false:=decide_eq_false hr1;by_cases hr2:(slotR f).hi < v1
          ·have d2:decide ((slotR f).hi < v1)=true:=decide_eq_true hr2;have HRX:Hid (r=(cmd0,5)):=hid (by rw[← HT.out,HAT2.out,if_pos (.inr hr2)]);have k1:=HBq.out.blk HK0b.out (by omega);have hbw:=HB.out;clear hr1 hr2;have HN:Hid (r=(cmd0,5)):=hid (by exact HRX.out);have r0:=k1.cell_ 0 _ rfl;have g0:=k1.frozen 0;have r1:=k1.cell_ 1 _ rfl;have g1:=k1.frozen 1;have r2:=k1.cell_ 2 _ rfl;have g2:=k1.frozen 2;have r3:=k1.cell_ 3 _ rfl;have g3:=k1.frozen 3;have r4:=k1.cell_ 4 _ rfl;have g4:=k1.frozen 4;have r5:=k1.cell_ 5 _ rfl;have g5:=k1.frozen 5;have r6:=k1.cell_ 6 _ rfl;have g6:=k1.frozen 6;have r7:=k1.cell_ 7 _ rfl;have g7:=k1.frozen 7;have r8:=k1.cell_ 8 _ rfl;have g8:=k1.frozen 8;have r9:=k1.cell_ 9 _ rfl;have g9:=k1.frozen 9;have HQ1:=hid k1;have HQW:=hid hbw;clear k1 hbw;go_wp2;(try simp only[Exit.inBlock,Exit.then]);refine bodyPost_ret (results_ct56 Tryz.results31 _ _ w.heap.size 34 #[.int .i64 0,.int .i64 0,.int .i64 0,.int .i64 0,.int .i64 0,.string ⟨#[]⟩,.slice none 0 0,.int .i64 0,.int .i64 0,.int .i64 0] (0,0) _ rfl (blk_set10 HQ1.out (.int .i64 0) (.int .i64 0) (.int .i64 0) (.int .i64 0) (.int .i64 0) (.string ⟨#[]⟩) (.slice none 0 0) (.int .i64 0) (.int .i64 0) (.int .i64 0)) Tryz.underlying34 rfl Tryz.sizeCommand) rfl ?_;exact RetCm.bad HN.out (below_set10 HQW.out (Nat.le_refl _) (.int .i64 0) (.int .i64 0) (.int .i64 0) (.int .i64 0) (.int .i64 0) (.string ⟨#[]⟩) (.slice none 0 0) (.int .i64 0) (.int .i64 0) (.int .i64 0))
          ·have d2:decide ((slotR f).hi < v1)=false:=decide_eq_false hr2;have HN:Hid (rfill (fs.drop (k+1)) (ws.drop (k+1)) (cc.set (slotR f).fld v1)=r):=hid (by rw[← HT.out,HAT2.out,if_neg (by rintro (h | h);exact hr1 h;exact hr2 h)]);clear hr1 hr2;go_upto_region 25 with fail
           clear d1 d2;obtain⟨c2,hc2⟩:∃ x,x=cc.set (slotR f).fld v1:=⟨_,rfl⟩
           have hset:=set_any HNW.out cc (nmV cc) A3 cc.cells.length k3 v1 wr.drew;unfold SetAt cmdV at hset;have hc2c:c2.cells=cc.cells:=by rw[hc2];exact set_cells0 _ _ _
           have hc2n:nmV cc=nmV c2:=by unfold nmV;rw[hc2,set_name0]
           have hlen:cc.cells.length=c2.cells.length:=by rw[hc2c]
           rw[← HZF.out,← hc2] at hset;have HSET:Hid (Calls Tryz.prog 49 #[.agg #[.int .i64 cc.kind,.int .i64 cc.x,.int .i64 cc.y,.int .i64 cc.n,.int .i64 cc.m,.string (nmV cc),.slice A3 cc.cells.length k3,.int .i64 cc.p,.int .i64 cc.dx,.int .i64 cc.dy],.string z,.int .i64 v1] wr.drew fun e w'=>e=.returned (.agg #[.int .i64 c2.kind,.int .i64 c2.x,.int .i64 c2.y,.int .i64 c2.n,.int .i64 c2.m,.string (nmV c2),.slice A3 c2.cells.length k3,.int .i64 c2.p,.int .i64 c2.dx,.int .i64 c2.dy])∧Below wr.heap.size wr.drew w'):=hid (by rw[← hc2n,← hlen];exact hset);have HCLr:Hid (Cls wr A3 c2.cells∧NewA (w.heap.size+2) A3):=hid (by rw[hc2c];exact HCL.out);rw[← hc2] at HN;have x0:wr.cell? ⟨w.heap.size+1,0,none⟩=some (.int .i64 cc.kind):=HKC.out.cell_ 0 _ rfl;have x1:wr.cell? ⟨w.heap.size+1,1,none⟩=some (.int .i64 cc.x):=HKC.out.cell_ 1 _ rfl;have x2:wr.cell? ⟨w.heap.size+1,2,none⟩=some (.int .i64 cc.y):=HKC.out.cell_ 2 _ rfl;have x3:wr.cell? ⟨w.heap.size+1,3,none⟩=some (.int .i64 cc.n):=HKC.out.cell_ 3 _ rfl;have x4:wr.cell? ⟨w.heap.size+1,4,none⟩=some (.int .i64 cc.m):=HKC.out.cell_ 4 _ rfl;have x5:wr.cell? ⟨w.heap.size+1,5,none⟩=some (.string (nmV cc)):=HKC.out.cell_ 5 _ rfl;have x6:wr.cell? ⟨w.heap.size+1,6,none⟩=some (.slice A3 cc.cells.length k3):=HKC.out.cell_ 6 _ rfl;have x7:wr.cell? ⟨w.heap.size+1,7,none⟩=some (.int .i64 cc.p):=HKC.out.cell_ 7 _ rfl;have x8:wr.cell? ⟨w.heap.size+1,8,none⟩=some (.int .i64 cc.dx):=HKC.out.cell_ 8 _ rfl;have x9:wr.cell? ⟨w.heap.size+1,9,none⟩=some (.int .i64 cc.dy):=HKC.out.cell_ 9 _ rfl;clear hset hc2 hc2c hc2n hlen HAT2 HT HCL HOK HMN HV1;go_region_with (go_at_call 49;refine HSET.out.mono ?_;intro e w7 hx;obtain⟨rfl,hb7⟩:=hx;have r0:=(HKC.out.drew.below hb7 HKC.out.lt).cell_ 0 _ rfl;have g0:=(HKC.out.drew.below hb7 HKC.out.lt).frozen 0;have r1:=(HKC.out.drew.below hb7 HKC.out.lt).cell_ 1 _ rfl;have g1:=(HKC.out.drew.below hb7 HKC.out.lt).frozen 1;have r2:=(HKC.out.drew.below hb7 HKC.out.lt).cell_ 2 _ rfl;have g2:=(HKC.out.drew.below hb7 HKC.out.lt).frozen 2;have r3:=(HKC.out.drew.below hb7 HKC.out.lt).cell_ 3 _ rfl;have g3:=(HKC.out.drew.below hb7 HKC.out.lt).frozen 3;have r4:=(HKC.out.drew.below hb7 HKC.out.lt).cell_ 4 _ rfl;have g4:=(HKC.out.drew.below hb7 HKC.out.lt).frozen 4;have r5:=(HKC.out.drew.below hb7 HKC.out.lt).cell_ 5 _ rfl;have g5:=(HKC.out.drew.below hb7 HKC.out.lt).frozen 5;have r6:=(HKC.out.drew.below hb7 HKC.out.lt).cell_ 6 _ rfl;have g6:=(HKC.out.drew.below hb7 HKC.out.lt).frozen 6;have r7:=(HKC.out.drew.below hb7 HKC.out.lt).cell_ 7 _ rfl;have g7:=(HKC.out.drew.below hb7 HKC.out.lt).frozen 7;have r8:=(HKC.out.drew.below hb7 HKC.out.lt).cell_ 8 _ rfl;have g8:=(HKC.out.drew.below hb7 HKC.out.lt).frozen 8;have r9:=(HKC.out.drew.below hb7 HKC.out.lt).cell_ 9 _ rfl;have g9:=(HKC.out.drew.below hb7 HKC.out.lt).frozen 9;have HB7:=hid hb7;clear hb7)
           all_goals
            have hb7b:Below wr.heap.size wr w7:=((Below.refl _ wr).drew).trans HB7.out;obtain⟨w8,hw8⟩:∃ W,set10 w7 (w.heap.size+1) (.int .i64 c2.kind) (.int .i64 c2.x) (.int .i64 c2.y) (.int .i64 c2.n) (.int .i64 c2.m) (.string (nmV c2)) (.slice A3 c2.cells.length k3) (.int .i64 c2.p) (.int .i64 c2.dx) (.int .i64 c2.dy)=W:=⟨_,rfl⟩
            have ho8:Ob (w.heap.size+1) wr w8:=by rw[← hw8];exact ((Ob.refl _ wr).below hb7b).set10 _ _ _ _ _ _ _ _ _ _
            have cf8:=World.grownBy.cell ho8 HCF.out (fun e=>by injection e with e;exact HFN.out _ rfl e);have HBN:Hid (Ob (w.heap.size+1) wb w8):=hid (by rw[← hw8];exact (HBq.out.below hb7b).set10 _ _ _ _ _ _ _ _ _ _);have hk9:=HKC.out.drew.below HB7.out HKC.out.lt;unfold cmdB at hk9;have HKN:Hid (Blk w8 (w.heap.size+1) 34 (cmdB c2 (.slice A3 c2.cells.length k3))):=hid (by rw[← hw8];exact blk_set10 hk9 _ _ _ _ _ _ _ _ _ _);have HCLN:Hid (Cls w8 A3 c2.cells∧NewA (w.heap.size+2) A3):=hid ⟨by rw[← hw8];exact cls_set10 (HCLr.out.1.ext hb7b) (fun ad e=>by have:=HCLr.out.2 ad e;omega) _ _ _ _ _ _ _ _ _ _,HCLr.out.2⟩;unfold set10 at hw8;rw[hw8];clear hw8 ho8 hb7b hk9 HB7 r0 g0 x0 r1 g1 x1 r2 g2 x2 r3 g3 x3 r4 g4 x4 r5 g5 x5 r6 g6 x6 r7 g7 x7 r8 g8 x8 r9 g9 x9 cf HSET HKC;go_wp2;go_roundw
            case rel=>exact⟨k+1,c2,A3,k3,HLT.out,(by first | rfl | (rw[hwk];rfl)),HBN,HKN,HCLN,HN⟩
            case measure=>(try rw[hwk]);exact meas_step5b HLT.out
        | false=>
         have hk4:(slotR f).k≠4:=by have:=HWF.out.1;rw[← hnb] at this;exact of_decide_eq_false this
         have hat:=HAT.out;rw[if_neg hk4] at hat;have HAT2:=hid hat;clear hat HAT hnb hk4;go_wp2_with (go_at_call 39;refine HNU.out.mono ?_;rintro e w7 ⟨rfl,hw⟩;rw[← hw];clear hw;refine Hid.out ?_);refine hid ?_;clear HNU;by_cases h67:f=[67]
         ·have hk3:(slotR f).k=3:=of_decide_eq_true (by rw[HWF.out.2.2.2.2];exact decide_eq_true h67);rw[decide_eq_true h67] at dz67;have hat:=HAT2.out;rw[if_pos hk3] at hat;have hsz:¬ 9223372036854775807 < 35+y.size:=by have:=HY.out;have h2:y.size=y.data.toList.length:=Array.length_toList.symm;omega
          have hpc:=rparse_any (⟨#[120,32,61,32,49,48,52,56,53,55,55,44,32,121,32,61,32,49,48,52,56,53,55,55,44,32,114,117,108,101,32,61,32,82,10]⟩ ++ y) wr (by rw[app_ba];show (hdrW ++ y.data.toList).toArray.size≤_;have:=HY.out;have h2:hdrW.length=35:=rfl;simp only[List.size_toArray,List.length_append];omega);have hpe:(⟨#[120,32,61,32,49,48,52,56,53,55,55,44,32,121,32,61,32,49,48,52,56,53,55,55,44,32,114,117,108,101,32,61,32,82,10]⟩ ++ y:ByteArray).data.toList=hdrW ++ y.data.toList:=by rw[app_ba];rfl
          rw[hpe] at hpc;obtain⟨r5,hr5⟩:∃ r,r=parseL (hdrW ++ y.data.toList):=⟨_,rfl⟩
          rw[← hr5] at hpc;have HPC:=hid hpc;have HAT3:Hid (r=if r5.2.2≠0 then (cmd0,r5.2.2) else rfill (fs.drop (k+1)) (ws.drop (k+1)) { cc with cells:=homeC r5.1 }):=hid (by rw[← HT.out,hat,hr5];rfl);clear hk3 hat HAT2 hpc hpe hr5 HT h67;obtain⟨cs,rl,er⟩:=r5;unfold RetParse at HPC;dsimp only at HPC HAT3;go_wp2_with (go_at_call 71;refine HPC.out.mono ?_;rintro e w7 ⟨A5,c5,rfl,hcl5,hb7,hn5⟩;refine Hid.out ?_);refine hid ?_;have HB7:=hid (HBq.out.below hb7);have HKC7:=hid (HKC.out.below hb7 HKC.out.lt);have HZ7:Hid (w.heap.size+2≤w7.heap.size):=hid (by have:=HKC7.out.lt;omega);have HN5:Hid (NewA (w.heap.size+2) A5):=hid (hn5.mono (by have:=HKC.out.lt;omega));have HCL5:=hid hcl5;clear hcl5 hb7 hn5 HPC HKC hsz;by_cases her:er=0
          ·subst her;have HN:Hid (rfill (fs.drop (k+1)) (ws.drop (k+1)) { cc with cells:=homeC cs } = r):=hid (by rw[HAT3.out,if_neg (by simp)]);have HHM:=hid (rhome_any A5 c5 cs w7 HCL5.out);clear HAT3;go_wp2_with (go_at_call 52;refine HHM.out.mono ?_;rintro e w8 ⟨A6,c6,rfl,hcl6,hA6,hb8⟩;refine Hid.out ?_);refine hid ?_;have HN6:Hid (NewA (w.heap.size+2) A6):=hid (by
            rcases hA6 with h | h
            ·rw[h];exact HN5.out
            ·exact h.mono HZ7.out)
           have hk8:=HKC7.out.below hb8 HKC7.out.lt;have fz:=hk8.frozen 6;have cz:=hk8.cell_ 6 _ rfl;have HKN:Hid (Blk (w8.setCell ⟨w.heap.size+1,6,none⟩ (.slice A6 (homeC cs).length c6)) (w.heap.size+1) 34 (cmdB { cc with cells:=homeC cs } (.slice A6 (homeC cs).length c6))):=hid (hk8.set_ 6 (.slice A6 (homeC cs).length c6));have HBN:Hid (Ob (w.heap.size+1) wb (w8.setCell ⟨w.heap.size+1,6,none⟩ (.slice A6 (homeC cs).length c6))):=hid ((HB7.out.below hb8).set 6 _);have HCLN:Hid (Cls (w8.setCell ⟨w.heap.size+1,6,none⟩ (.slice A6 (homeC cs).length c6)) A6 (homeC cs)∧NewA (w.heap.size+2) A6):=hid ⟨cls_set hcl6 (fun ad e=>by have:=HN6.out ad e;show ad.block≠w.heap.size+1;omega) _,HN6.out⟩;clear hcl6 hA6 hb8 hk8 HHM HN6 HN5 HCL5;go_wp2;go_roundw
           case rel=>exact⟨k+1,_,A6,c6,HLT.out,(by first | rfl | (rw[hwk];rfl)),HBN,HKN,HCLN,HN⟩
           case measure=>(try rw[hwk]);exact meas_step5b HLT.out
          ·have de:(er == 0)=false:=by simpa using her
           have de2:(er != 0)=true:=by simpa using her
           have HRX:Hid (r=(cmd0,er)):=hid (by rw[HAT3.out,if_pos her]);have k1:=HB7.out.blk HK0b.out (by omega);have hbw:=HBb.out.trans (HB7.out.low (B:=w.heap.size) (by omega) (by have:=HZb.out;omega));clear her HAT3;have HN:Hid (r=(cmd0,er)):=hid (by exact HRX.out);have r0:=k1.cell_ 0 _ rfl;have g0:=k1.frozen 0;have r1:=k1.cell_ 1 _ rfl;have g1:=k1.frozen 1;have r2:=k1.cell_ 2 _ rfl;have g2:=k1.frozen 2;have r3:=k1.cell_ 3 _ rfl;have g3:=k1.frozen 3;have r4:=k1.cell_ 4 _ rfl;have g4:=k1.frozen 4;have r5:=k1.cell_ 5 _ rfl;have g5:=k1.frozen 5;have r6:=k1.cell_ 6 _ rfl;have g6:=k1.frozen 6;have r7:=k1.cell_ 7 _ rfl;have g7:=k1.frozen 7;have r8:=k1.cell_ 8 _ rfl;have g8:=k1.frozen 8;have r9:=k1.cell_ 9 _ rfl;have g9:=k1.frozen 9;have HQ1:=hid k1;have HQW:=hid hbw;clear k1 hbw;go_wp2;(try simp only[Exit.inBlock,Exit.then]);refine bodyPost_ret (results_ct56 Tryz.results31 _ _ w.heap.size 34 #[.int .i64 0,.int .i64 0,.int .i64 0,.int .i64 0,.int .i64 0,.string ⟨#[]⟩,.slice none 0 0,.int .i64 0,.int .i64 0,.int .i64 0] (0,0) _ rfl (blk_set10 HQ1.out (.int .i64 0) (.int .i64 0) (.int .i64 0) (.int .i64 0) (.int .i64 0) (.string ⟨#[]⟩) (.slice none 0 0) (.int .i64 0) (.int .i64 0) (.int .i64 0)) Tryz.underlying34 rfl Tryz.sizeCommand) rfl ?_;exact RetCm.bad HN.out (below_set10 HQW.out (Nat.le_refl _) (.int .i64 0) (.int .i64 0) (.int .i64 0) (.int .i64 0) (.int .i64 0) (.string ⟨#[]⟩) (.slice none 0 0) (.int .i64 0) (.int .i64 0) (.int .i64 0))
         ·rw[decide_eq_false h67] at dz67;have hk3:(slotR f).k≠3:=by have:=HWF.out.2.2.2.2;rw[decide_eq_false h67] at this;exact of_decide_eq_false this
          have hat:=HAT2.out;rw[if_neg hk3] at hat;have HN:Hid (rfill (fs.drop (k+1)) (ws.drop (k+1)) cc=r):=hid (by rw[← HT.out,hat]);clear h67 hk3 hat HAT2 HT;go_wp2;go_roundw
          case rel=>exact⟨k+1,_,_,_,HLT.out,(by first | rfl | (rw[hwk];rfl)),HBq,HKC,HCL,HN⟩
          case measure=>(try rw[hwk]);exact meas_step5b HLT.out
       ·have hek:k=fb.length:=by omega
        have HRF:Hid (r=(cc,0)):=hid (by rw[← HT.out,hek,HFL.out,List.drop_length];exact rfill_end _ _);have dk:decide ((k:Int) < fb.length)=false:=decide_eq_false (by omega);have hnlt2:¬ k < fb.length:=hlt;have k1:=HBq.out.blk HK0b.out (by omega);have r0:=k1.cell_ 0 _ rfl;have g0:=k1.frozen 0;have x0:wr.cell? ⟨w.heap.size+1,0,none⟩=some (.int .i64 cc.kind):=HKC.out.cell_ 0 _ rfl;have r1:=k1.cell_ 1 _ rfl;have g1:=k1.frozen 1;have x1:wr.cell? ⟨w.heap.size+1,1,none⟩=some (.int .i64 cc.x):=HKC.out.cell_ 1 _ rfl;have r2:=k1.cell_ 2 _ rfl;have g2:=k1.frozen 2;have x2:wr.cell? ⟨w.heap.size+1,2,none⟩=some (.int .i64 cc.y):=HKC.out.cell_ 2 _ rfl;have r3:=k1.cell_ 3 _ rfl;have g3:=k1.frozen 3;have x3:wr.cell? ⟨w.heap.size+1,3,none⟩=some (.int .i64 cc.n):=HKC.out.cell_ 3 _ rfl;have r4:=k1.cell_ 4 _ rfl;have g4:=k1.frozen 4;have x4:wr.cell? ⟨w.heap.size+1,4,none⟩=some (.int .i64 cc.m):=HKC.out.cell_ 4 _ rfl;have r5:=k1.cell_ 5 _ rfl;have g5:=k1.frozen 5;have x5:wr.cell? ⟨w.heap.size+1,5,none⟩=some (.string (nmV cc)):=HKC.out.cell_ 5 _ rfl;have r6:=k1.cell_ 6 _ rfl;have g6:=k1.frozen 6;have x6:wr.cell? ⟨w.heap.size+1,6,none⟩=some (.slice A3 cc.cells.length k3):=HKC.out.cell_ 6 _ rfl;have r7:=k1.cell_ 7 _ rfl;have g7:=k1.frozen 7;have x7:wr.cell? ⟨w.heap.size+1,7,none⟩=some (.int .i64 cc.p):=HKC.out.cell_ 7 _ rfl;have r8:=k1.cell_ 8 _ rfl;have g8:=k1.frozen 8;have x8:wr.cell? ⟨w.heap.size+1,8,none⟩=some (.int .i64 cc.dx):=HKC.out.cell_ 8 _ rfl;have r9:=k1.cell_ 9 _ rfl;have g9:=k1.frozen 9;have x9:wr.cell? ⟨w.heap.size+1,9,none⟩=some (.int .i64 cc.dy):=HKC.out.cell_ 9 _ rfl;have HQ1:=hid k1;clear k1 hek HT;go_wp2;(try simp only[Exit.inBlock,Exit.then]);refine bodyPost_ret (results_ct56 Tryz.results31 _ _ w.heap.size 34 #[.int .i64 cc.kind,.int .i64 cc.x,.int .i64 cc.y,.int .i64 cc.n,.int .i64 cc.m,.string (nmV cc),.slice A3 cc.cells.length k3,.int .i64 cc.p,.int .i64 cc.dx,.int .i64 cc.dy] (0,0) _ rfl (blk_set10 HQ1.out (.int .i64 cc.kind) (.int .i64 cc.x) (.int .i64 cc.y) (.int .i64 cc.n) (.int .i64 cc.m) (.string (nmV cc)) (.slice A3 cc.cells.length k3) (.int .i64 cc.p) (.int .i64 cc.dx) (.int .i64 cc.dy)) Tryz.underlying34 rfl Tryz.sizeCommand) rfl ?_;exact RetCm.good HRF.out (cls_set10 HCL.out.1 (fun ad e=>by have:=HCL.out.2 ad e;omega) (.int .i64 cc.kind) (.int .i64 cc.x) (.int .i64 cc.y) (.int .i64 cc.n) (.int .i64 cc.m) (.string (nmV cc)) (.slice A3 cc.cells.length k3) (.int .i64 cc.p) (.int .i64 cc.dx) (.int .i64 cc.dy)) (HCL.out.2.mono (by omega)) (below_set10 HB.out (Nat.le_refl _) (.int .i64 cc.kind) (.int .i64 cc.x) (.int .i64 cc.y) (.int .i64 cc.n) (.int .i64 cc.m) (.string (nmV cc)) (.slice A3 cc.cells.length k3) (.int .i64 cc.p) (.int .i64 cc.dx) (.int .i64 cc.dy))
end Go.Proofs.YtcfelnhmifkelaaGreatDoor
namespace Go.Proofs.YtcfelnhmifkelaaGreatDoor
open Go.RowKit
set_option maxRecDepth 100000
set_option linter.unusedVariables false
set_option linter.unusedSimpArgs false
theorem index_nlS {a r:List UInt8}(h:(10:UInt8) ∉ a):Lib.index (a ++ 10 :: r) [10]=a.length:=by
 refine Lib.index_first (by simp) (by simp[Lib.occAt]) (fun j hj=>?_);unfold Lib.occAt;rw[List.drop_append_of_le_length (by omega),List.drop_eq_getElem_cons hj];have hne:a[j]≠10:=fun he=>h (he ▸ List.getElem_mem hj);simp only[List.cons_append,List.isPrefixOf,Bool.and_true];simpa using Ne.symm hne
theorem splitK_nlS {a r:List UInt8}(h:(10:UInt8) ∉ a) (k:Nat):Lib.splitK [10] 0 (k+1) (a ++ 10 :: r)=a :: Lib.splitK [10] 0 k r:=by
 rw[Lib.splitK,index_nlS h];have:¬ (((a.length:Nat):Int) == -1)=true:=by rw[beq_iff_eq];omega
 rw[if_neg this]
 simp
theorem cut_nlS:∀ (l:List UInt8)(n:Nat),l.count 10=n+1→∃ a r,l=a ++ 10 :: r∧(10:UInt8) ∉ a∧r.count 10=n
 | [],n,h=>by simp at h
 | c :: l,n,h=>by
  by_cases hc:c=10
  ·subst hc;exact⟨[],l,rfl,by simp,by simpa using h⟩
  ·rw[List.count_cons,if_neg (by simpa using hc)] at h;obtain⟨a,r,h1,h2,h3⟩:=cut_nlS l n h;refine⟨c :: a,r,by simp[h1],?_,h3⟩;intro hm;rcases List.mem_cons.1 hm with hm | hm
   ·exact hc hm.symm
   ·exact h2 hm
theorem split_linesS:∀ (k:Nat)(l:List UInt8),l.count 10=k→Lib.splitK [10] 0 k l=splitC 10 l
 | 0,l,h=>by
  rw[splitC_oneS 10 (List.count_eq_zero.1 h)];rfl
 | k+1,l,h=>by
  obtain⟨a,r,rfl,h2,h3⟩:=cut_nlS l k h;rw[splitK_nlS h2,splitC_feed,splitC_oneS 10 h2,split_linesS k r h3];rfl
theorem split_allS (s:ByteArray):wdL (Lib.splitB ⟨#[10]⟩ 0 (Lib.countB s ⟨#[10]⟩) s)=splitC 10 s.data.toList:=by
 unfold wdL;rw[Lib.splitB_data];exact split_linesS _ _ (Lib.count_one 10 s.data.toList).symm
theorem trim_lines {l:List UInt8}(h:l≠[]):splitC 10 (Lib.trimSuffix l [10])=linesP l:=by
 rcases List.eq_nil_or_concat l with rfl | ⟨t,a,rfl⟩
 ·exact absurd rfl h
 ·rw[List.concat_eq_append];unfold Lib.trimSuffix Lib.hasSuffix;by_cases ha:a=10
  ·subst ha;rw[linesP_front]
   simp
  ·rw[linesP_no ha];simp[Ne.symm ha,ha]
theorem split_any_lines (s:ByteArray)(w:World)(hg:GCell w)(hs:s.size≤2147483648) :
  Calls Tryz.prog 23 #[.string s,.string ⟨#[10]⟩] w fun e w'=>∃ A ls,e=.returned (.slice A ls.length ls.length)∧Sts w' A ls∧wdL ls=splitC 10 s.data.toList∧Below w.heap.size w w':=by
 obtain⟨m,hm⟩:=hg;refine (Tryz.strings_Split s ⟨#[10]⟩ m w (by omega) hm (by decide)).mono ?_;rintro e w' ⟨rfl,rfl⟩;have hl:(Lib.splitB ⟨#[10]⟩ 0 (Lib.countB s ⟨#[10]⟩) s).length=Lib.countB s ⟨#[10]⟩+1:=by
  have h1:=congrArg List.length (split_allS s);unfold wdL at h1;rw[List.length_map,split_feeds] at h1;rw[h1];have:Lib.countB s ⟨#[10]⟩=feeds s.data.toList:=by
   unfold feeds;have:=Lib.count_one 10 s.data.toList;unfold Lib.countB;rw[List.count] at this;exact this
  rw[this]
 refine⟨some ⟨w.heap.size,0,none⟩,Lib.splitB ⟨#[10]⟩ 0 (Lib.countB s ⟨#[10]⟩) s,by rw[hl],?_,split_allS s,below_new _ _⟩;refine sts_lit56 w _ ?_;have h1:=congrArg List.length (split_allS s);unfold wdL at h1;rw[List.length_map,split_feeds] at h1;rw[h1];have:feeds s.data.toList≤s.data.toList.length:=List.countP_le_length;have h2:s.data.toList.length=s.size:=Array.length_toList;unfold maxLen;omega
theorem trim_any (s:ByteArray)(w:World)(hs:s.size≤2147483648) :
  Calls Tryz.prog 24 #[.string s,.string ⟨#[10]⟩] w fun e w'=>e=.returned (.string ⟨(Lib.trimSuffix s.data.toList [10]).toArray⟩)∧w'=w:=
 Tryz.strings_TrimSuffix s ⟨#[10]⟩ w (by omega)
end Go.Proofs.YtcfelnhmifkelaaGreatDoor
namespace Go.Proofs.YtcfelnhmifkelaaGreatDoor
open Lib(hid)
open Go.RowKit
set_option maxRecDepth 100000
set_option linter.unusedVariables false
set_option linter.unusedSimpArgs false
theorem forms_fld2:∀ f ∈ formsP,∀ s ∈ f.slots,s.k=4→FldOk s.fld:=by unfold FldOk;decide
theorem formOf_drop {fs:List Form}{k:Nat}(h:k < fs.length)(p:Form→Bool):(fs.drop k).find? p=if p fs[k]=true then some fs[k] else (fs.drop (k+1)).find? p:=by
 rw[List.drop_eq_getElem_cons h,List.find?_cons];cases p fs[k] <;> rfl
theorem runS_at {ls:List (List UInt8)} {k:Nat}(h:k < ls.length)(a:List Cmd):runS k a (ls.drop k)=match cmdL ls[k] with
  | none=>runS (k+1) a (ls.drop (k+1))
  | some (c,e)=>if e≠0 then ([],(k:Int)+1,e) else runS (k+1) (a ++ [c]) (ls.drop (k+1)):=by
 rw[List.drop_eq_getElem_cons h];rfl
def RetSc (r:List Cmd × Int × Int)(w:World)(e:Ending)(w':World):Prop:=∃ v,e=.returned (.tuple #[v,.int .i64 r.2.1,.int .i64 r.2.2])∧CmsA w' v r.1∧Below w.heap.size w w'
theorem RetSc.bad {r:List Cmd × Int × Int}{w w':World}{i k:Int}(h:r=([],i,k)) (hb:Below w.heap.size w w'):RetSc r w (.returned (.tuple #[.slice none 0 0,.int .i64 i,.int .i64 k])) w':=by
 subst h;exact⟨_,rfl,CmsA.nil _,hb⟩
theorem RetSc.good {r:List Cmd × Int × Int}{w w':World}{v:Value}{l:List Cmd}(h:r=(l,0,0)) (hv:CmsA w' v l)(hb:Below w.heap.size w w'):RetSc r w (.returned (.tuple #[v,.int .i64 0,.int .i64 0])) w':=by
 subst h;exact⟨_,rfl,hv,hb⟩
theorem cmdL_words2 {l:List UInt8}(h:wordsOf l≠[]):cmdL l=some (match formOf (wordsOf l) with | none=>(cmd0,15) | some f=>cmdP f (wordsOf l)):=by
 unfold cmdL;rw[if_neg h];cases formOf (wordsOf l) <;> rfl
theorem cmdL_empty {l:List UInt8}(h:wordsOf l=[]):cmdL l=none:=by unfold cmdL;rw[if_pos h]
theorem splitC_part (c:UInt8):∀ (l:List UInt8),∀ p ∈ splitC c l,p.length≤l.length
 | [],p,h=>by
  rw[splitC,List.mem_singleton] at h;rw[h];exact Nat.le_refl _
 | a :: l,p,h=>by
  have ih:=splitC_part c l;rw[splitC] at h;by_cases ha:a=c
  ·rw[if_pos ha] at h;rcases List.mem_cons.1 h with rfl | h
   ·exact Nat.zero_le _
   ·exact Nat.le_succ_of_le (ih p h)
  ·rw[if_neg ha] at h;cases e:splitC c l with
   | nil=>exact absurd e (splitC_neS c l)
   | cons q qs=>
    rw[e] at h ih;rcases List.mem_cons.1 h with rfl | h
    ·exact Nat.succ_le_succ (ih q List.mem_cons_self)
    ·exact Nat.le_succ_of_le (ih p (List.mem_cons_of_mem _ h))
theorem lines_part (l:List UInt8):∀ p ∈ linesP l,p.length≤l.length:=by
 intro p hp;unfold linesP at hp
 split at hp
 ·exact splitC_part 10 l p (List.dropLast_subset _ hp)
 ·exact splitC_part 10 l p hp
theorem words_part (l:List UInt8):∀ p ∈ wordsOf l,p.length≤l.length:=by
 have key:∀ (ps:List (List UInt8)),∀ p ∈ wordsTo ps,p ∈ ps:=by
  intro ps;induction ps with
  | nil=>intro p hp;exact hp
  | cons a ps ih=>
   intro p hp;rw[wordsTo] at hp
   split at hp
   ·cases hp
   ·split at hp
    ·exact List.mem_cons_of_mem _ (ih p hp)
    ·rcases List.mem_cons.1 hp with rfl | hp
     ·exact List.mem_cons_self
     ·exact List.mem_cons_of_mem _ (ih p hp)
 intro p hp;exact splitC_part 32 l p (key _ p hp)
def finS (k:Nat)(acc:List Cmd)(rest ws:List (List UInt8)):Option Form→List Cmd × Int × Int
 | none=>([],(k:Int)+1,15)
 | some f=>if (cmdP f ws).2≠0 then ([],(k:Int)+1,(cmdP f ws).2) else runS (k+1) (acc ++ [(cmdP f ws).1]) rest
set_option maxHeartbeats 32000000 in
theorem parse56_any (s:ByteArray)(w:World)(hg:GCell w)(he:ErrV w)(hs:s.data.toList.length≤70000) :
  Calls Tryz.prog 10 #[.string s] w (RetSc (scrP s.data.toList) w):=by
 obtain⟨l,hl⟩:∃ x,x=s.data.toList:=⟨_,rfl⟩
 obtain⟨r,hr⟩:∃ r,r=scrP l:=⟨_,rfl⟩
 rw[← hl,← hr];have hsz:s.size=l.length:=by rw[hl];exact Array.length_toList.symm
 have dn:=str_nil56 s;rw[← hl] at dn hs;have HL:=hid hl;have HS:=hid hs;have HSZ:=hid hsz;have HG:=hid hg;have HE:=hid he;by_cases h0:l=[]
 ·rw[decide_eq_true h0] at dn;have HN:Hid (r=([],0,0)):=hid (by rw[hr,h0];rfl);clear hr hl h0 hs hsz hg he;go_enter Tryz.func10,Tryz.ntmps10;go_wp2
  go_step3
  go_wp2;(try rw[Exit.noGoto_ret]);go_ret3;exact RetSc.bad HN.out (Below.refl _ _)
 rw[decide_eq_false h0] at dn;have htr:=trim_any s w (by rw[hsz];omega);rw[← hl] at htr;have hspl:=split_any_lines ⟨(Lib.trimSuffix l [10]).toArray⟩ w hg (by
  show (Lib.trimSuffix l [10]).toArray.size≤_;have:(Lib.trimSuffix l [10]).length≤l.length:=by
   unfold Lib.trimSuffix
   split
   ·rw[List.length_take];omega
   ·exact Nat.le_refl _
  simp only[List.size_toArray];omega)
 have htl:splitC 10 (⟨(Lib.trimSuffix l [10]).toArray⟩:ByteArray).data.toList=linesP l:=trim_lines h0;rw[htl] at hspl;have HTR:=hid htr;have HSPL:=hid hspl;have HR:=hid hr;clear hr hl h0 hs hsz hg he htr hspl htl;go_enter Tryz.func10,Tryz.ntmps10;go_wp2
 go_step3
 go_wp2_with (go_at_call 24;refine HTR.out.mono ?_;rintro e w1 ⟨rfl,hw⟩;rw[hw];clear hw;refine Hid.out ?_);refine hid ?_;go_wp2_with (go_at_call 23;refine HSPL.out.mono ?_;rintro e w1 ⟨LA,ls,rfl,hls,hwl,hb1⟩;refine Hid.out ?_);refine hid ?_;have HLS:=hid hls;have HWL:=hid hwl;have HB1:=hid hb1;have HLN:Hid (ls.length=(linesP l).length):=hid (by rw[← hwl];exact (List.length_map _).symm);clear hls hwl hb1 HTR HSPL;go_upto_region 4 with fail
 have hsz2:=HSZ.out;by_cases h1:65536 < l.length
 ·have d1:decide ((65536:Int) < (s.size:Int))=true:=decide_eq_true (by omega);have h1b:65536 < s.size:=by omega
  have HN:Hid (r=([],0,6)):=hid (by rw[HR.out];unfold scrP;rw[if_pos h1]);clear h1 hsz2;go_wp2;(try rw[Exit.noGoto_ret]);go_ret3;exact RetSc.bad HN.out HB1.out
 have d1:decide ((65536:Int) < (s.size:Int))=false:=decide_eq_false (by omega);have h1b:¬ 65536 < s.size:=by omega
 by_cases h2:200 < ls.length
 ·have d2:decide ((200:Int) < (ls.length:Int))=true:=decide_eq_true (by omega);have HN:Hid (r=([],0,6)):=hid (by rw[HR.out];unfold scrP;rw[if_neg h1,if_pos (by rw[← HLN.out];exact h2)]);clear h1 hsz2;go_wp2;(try rw[Exit.noGoto_ret]);go_ret3;exact RetSc.bad HN.out HB1.out
 have d2:decide ((200:Int) < (ls.length:Int))=false:=decide_eq_false (by omega);have HRS:Hid (runS 0 [] (wdL ls)=r):=hid (by rw[HR.out,HWL.out];unfold scrP;rw[if_neg h1,if_neg (by rw[← HLN.out];exact h2)]);have HL2:Hid (ls.length≤200):=hid (by omega);have HPT:Hid (∀ p ∈ wdL ls,p.length≤70000):=hid (fun p hp=>by
  rw[HWL.out] at hp;exact Nat.le_trans (lines_part l p hp) HS.out)
 have HFM:=hid (forms_any w1);have h2b:¬ 200 < ls.length:=h2;clear h1 h2 hsz2;go_wp2_with (go_at_call 25;refine HFM.out.mono ?_;rintro e w2 ⟨v2,rfl,hfa,hb2⟩;refine Hid.out ?_);refine hid ?_;obtain⟨FA,fc,rfl⟩:=hfa.form;have HB2:=hid (HB1.out.trans (hb2.mono HB1.out.size));obtain⟨fs,hfs⟩:∃ x,x=formsP:=⟨_,rfl⟩
 rw[← hfs] at hfa ⊢;have HFS:=hid hfs;have HFA:=hid hfa;have HFN:Hid (fs.length=12):=hid (by rw[hfs];rfl);have HLS2:=hid (HLS.out.ext hb2);clear hfs hfa hb2 HFM HB1 HLS d1 d2 dn h1b h2b HR;go_wp2
 go_step3
 go_wp2;go_loopw [7,31] (fun ov iv wr=>∃ (k:Nat) (acc:List Cmd),k≤ls.length∧iv=.int .i64 k∧Hid (Below w2.heap.size w2 wr)∧Hid (OwnK wr w2.heap.size ov acc)∧Hid (acc.length≤k)∧Hid (runS k acc ((wdL ls).drop k)=r)) (fun _ iv _=>ls.length - (intOf iv).toNat)
 case atStart=>exact⟨0,[],Nat.zero_le _,rfl,hid (Below.refl _ _),hid (OwnK.nil _ _),hid (Nat.le_refl _),HRS⟩
 case round=>
  obtain⟨k,acc,hk,rfl,HBq,HO,HAC,HT⟩:=hrel;have hwk:wrap64 ((k:Int)+1)=(k:Int)+1:=by have:=HL2.out;unfold wrap64;omega
  have HBW:=hid (HB2.out.trans (HBq.out.mono HB2.out.size));by_cases hlt:k < ls.length
  ·obtain⟨lb,lo,e1,-,cl⟩:=(HLS2.out.ext HBq.out).at_ hlt;subst e1;have hkw:k < (wdL ls).length:=by rw[wdL_len];exact hlt
   have hat:=runS_at hkw acc;have hwl:(wdL ls)[k]=ls[k].data.toList:=wdL_at hlt hkw;have hpt:=HPT.out _ (List.getElem_mem hkw);rw[hwl] at hat hpt;obtain⟨y,hy⟩:∃ y,y=ls[k]:=⟨_,rfl⟩
   rw[← hy] at cl hat hpt;have hys:y.size=y.data.toList.length:=Array.length_toList.symm;have HAT:=hid hat;have HPY:=hid hpt;have HLT:=hid hlt;have HSP:=hid (split56_any y wr (by omega));clear hy hat hpt hwl hkw hys;go_wp2_with (go_at_call 26;refine HSP.out.mono ?_;rintro e w3 ⟨WA,wc,bs,rfl,hbs,hbw,hb7,hb3⟩;refine Hid.out ?_);refine hid ?_;have HB3:=hid (HBq.out.trans (hb3.mono HBq.out.size));have HBW3:=hid (HBW.out.trans (hb3.mono HBW.out.size));have HO3:=hid (HO.out.ext hb3);have HBS:=hid hbs;have HBX:=hid hbw;have HB7:=hid hb7;clear hbs hbw hb7 hb3 HSP HO HBq HBW;by_cases h0:bs.length=0
   ·have e0:((bs.length:Int) == 0)=true:=by rw[h0];rfl
    have hw0:wordsOf y.data.toList=[]:=by rw[← HBX.out,List.length_eq_zero_iff.1 h0];rfl
    have HN:Hid (runS (k+1) acc ((wdL ls).drop (k+1))=r):=hid (by rw[← HT.out,HAT.out,cmdL_empty hw0]);clear h0 hw0;go_wp2;go_roundw
    case rel=>exact⟨k+1,acc,HLT.out,(by first | rfl | (rw[hwk];rfl)),HB3,HO3,hid (Nat.le_succ_of_le HAC.out),HN⟩
    case measure=>(try rw[hwk]);exact meas_step5b HLT.out
   ·have e0:((bs.length:Int) == 0)=false:=beq_false_of_ne (by omega);have hw0:wordsOf y.data.toList≠[]:=by
     rw[← HBX.out];intro e;have:=congrArg List.length e;rw[wdL_len] at this;exact h0 this
    have hcl:=cmdL_words2 hw0;obtain⟨ws,hws⟩:∃ x,x=wordsOf y.data.toList:=⟨_,rfl⟩
    have HWP:Hid (∀ b ∈ bs,b.data.toList.length≤70000):=hid (fun b hb=>by
     have h1:b.data.toList ∈ wdL bs:=List.mem_map_of_mem hb;rw[HBX.out] at h1;exact Nat.le_trans (words_part _ _ h1) HPY.out)
    rw[← hws] at hcl HBX;obtain⟨fo,hfo⟩:∃ x,x=formOf ws:=⟨_,rfl⟩
    have HFO:=hid hfo;have HAT2:Hid (runS k acc ((wdL ls).drop k)=finS k acc ((wdL ls).drop (k+1)) ws fo):=hid (by rw[HAT.out,hcl,hfo];cases formOf ws <;> rfl);have hpos:0 < bs.length:=by omega
    have HPOS:=hid hpos;clear h0 hw0 hcl hws hfo HAT hpos;have dk:decide ((k:Int) < ls.length)=true:=decide_eq_true (by omega);go_upto_region 14 with fail
    obtain⟨ov,hov⟩:∃ o,o=u7:=⟨_,rfl⟩
    subst hov;go_loopw [7,43] (fun ov2 iv wr=>∃ j:Nat,j≤fs.length∧ov2=ov∧iv=.int .i64 j∧Hid (Below w3.heap.size w3 wr)∧Hid ((fs.drop j).find? (fun f=>fitsP f ws)=fo)) (fun _ iv _=>fs.length - (intOf iv).toNat)
    case atStart=>exact⟨0,Nat.zero_le _,rfl,rfl,hid (Below.refl _ _),hid (by rw[HFO.out,HFS.out];rfl)⟩
    case round=>
     obtain⟨j,hj,rfl,rfl,HBq,HFT⟩:=hrel;have hwj:wrap64 ((j:Int)+1)=(j:Int)+1:=by have:=HFN.out;unfold wrap64;omega
     have HBW:=hid (HBW3.out.trans (HBq.out.mono HBW3.out.size));have HBX2:=hid (HB3.out.trans (HBq.out.mono HB3.out.size));by_cases hjt:j < fs.length
     ·obtain⟨fb,fof,fcc,sv,efv,hfbl,f0,f1,f2,hsl2⟩:=HFA.out.at_ hjt
      replace f0:=(HBX2.out.cell (World.block_lt_of_cell? _ _ f0)).trans f0
      replace f1:=(HBX2.out.cell (World.block_lt_of_cell? _ _ f1)).trans f1
      replace f2:=(HBX2.out.cell (World.block_lt_of_cell? _ _ f2)).trans f2
      injection efv with efv1 efv2 efv3
      subst efv1 efv3;obtain⟨SA,sc,rfl⟩:=hsl2.form;have HSTEP:=hid (formOf_drop hjt (fun f=>fitsP f ws));have HMEM:Hid (fs[j] ∈ formsP):=hid (by rw[← HFS.out];exact List.getElem_mem hjt);obtain⟨ff,hff⟩:∃ f,f=fs[j]:=⟨_,rfl⟩
      rw[← hff] at f0 f1 f2 hsl2 HSTEP HMEM;have HJT:=hid hjt;obtain⟨w6,hw6⟩:∃ W,W=wr.alloc (.cells #[.string ⟨ff.word.toArray⟩,.int .i64 ff.kind,.slice SA ff.slots.length sc] 52):=⟨_,rfl⟩
      obtain⟨p6,hp6⟩:∃ p,p=wr.heap.size:=⟨_,rfl⟩
      have hk6:Blk w6 p6 52 #[.string ⟨ff.word.toArray⟩,.int .i64 ff.kind,.slice SA ff.slots.length sc]:=by rw[hw6,hp6];exact Blk.new _ _ _
      have hb6:Below wr.heap.size wr w6:=by rw[hw6];exact below_new _ _
      have HB6:=hid (HBq.out.trans (hb6.mono HBq.out.size));have HBW6:=hid (HBW.out.trans (hb6.mono HBW.out.size));have HBX6:=hid (HBX2.out.trans (hb6.mono HBX2.out.size));have HK6:=hid hk6;have HSL2:=hid hsl2;have x0:w6.cell? ⟨p6,0,none⟩=some (.string ⟨ff.word.toArray⟩):=hk6.cell_ 0 _ rfl;have x1:w6.cell? ⟨p6,1,none⟩=some (.int .i64 ff.kind):=hk6.cell_ 1 _ rfl;have x2:w6.cell? ⟨p6,2,none⟩=some (.slice SA ff.slots.length sc):=hk6.cell_ 2 _ rfl;clear hff hk6 hb6 hsl2 HBq HBW HBX2;have hfit:=fits56_any ff (.slice SA ff.slots.length sc) WA wc bs w6 (HSL2.out.ext HBX6.out) (HBS.out.ext HB6.out) HPOS.out (by have:=HB7.out;omega) (fun b hb=>by have:=HWP.out b hb;omega);unfold formV at hfit;rw[HBX.out] at hfit;have HFIT:=hid hfit;clear hfit;go_upto_region 16 with fail
      rw[← hw6,← hp6];clear hw6 hp6 f0 f1 f2;go_wp2_with (go_at_call 27;refine HFIT.out.mono ?_;intro e w7 hx;obtain⟨rfl,hb7⟩:=hx;refine Hid.out ?_);refine hid ?_;have HB7q:=hid (HB6.out.trans (hb7.mono HB6.out.size));have HBW7:=hid (HBW6.out.trans (hb7.mono HBW6.out.size));have HBX7:=hid (HBX6.out.trans (hb7.mono HBX6.out.size));have hk7:=HK6.out.below hb7 HK6.out.lt;obtain⟨bv,hbv⟩:∃ b,b=fitsP ff ws:=⟨_,rfl⟩
      rw[← hbv] at HSTEP ⊢;clear hb7 HFIT HK6 HB6 HBW6 HBX6 x0 x1 x2;cases bv with
      | false=>
       have HN:Hid ((fs.drop (j+1)).find? (fun f=>fitsP f ws)=fo):=hid (by rw[← HFT.out,HSTEP.out,if_neg Bool.false_ne_true]);clear hbv hk7;go_wp2;go_roundw
       case rel=>exact⟨j+1,HJT.out,rfl,(by first | rfl | (rw[hwj];rfl)),HB7q,HN⟩
       case measure=>(try rw[hwj]);exact meas_step5b HJT.out
      | true=>
       have hfs2:fo=some ff:=by rw[← HFT.out,HSTEP.out,if_pos rfl]
       have HLS3:Hid (bs.length=ff.slots.length+1):=hid (by
        have h:=hbv.symm;unfold fitsP at h;rw[Bool.and_eq_true,Bool.and_eq_true,decide_eq_true_eq,decide_eq_true_eq] at h;have h2:=h.1.2;rw[← HBX.out,wdL_len] at h2;omega)
       have hcm:=command_any ff (.slice SA ff.slots.length sc) WA wc bs w7 (HG.out.ext HBW7.out) (HE.out.ext HBW7.out) (HSL2.out.ext HBX7.out) (HBS.out.ext HB7q.out) HLS3.out (by have:=HB7.out;omega) (fun b hb=>by have:=HWP.out b hb;omega) (forms_fld2 ff HMEM.out);unfold formV at hcm;rw[HBX.out] at hcm;have hat:=HAT2.out;rw[hfs2] at hat;unfold finS at hat;dsimp only at hat;obtain⟨rc,hrc⟩:∃ x,x=cmdP ff ws:=⟨_,rfl⟩
       rw[← hrc] at hcm hat;obtain⟨cc,er⟩:=rc;unfold RetCm cmdV at hcm;dsimp only at hcm hat;have HCM:=hid hcm;have HAT3:=hid hat;have x0:w7.cell? ⟨p6,0,none⟩=some (.string ⟨ff.word.toArray⟩):=hk7.cell_ 0 _ rfl;have x1:w7.cell? ⟨p6,1,none⟩=some (.int .i64 ff.kind):=hk7.cell_ 1 _ rfl;have x2:w7.cell? ⟨p6,2,none⟩=some (.slice SA ff.slots.length sc):=hk7.cell_ 2 _ rfl;clear hbv hk7 hcm hat hrc hfs2 HFT HSTEP HAT2;go_wp2_with (go_at_call 28;refine HCM.out.mono ?_;rintro e w8 ⟨A5,c5,rfl,hc5,hn5,hb8⟩;refine Hid.out ?_);refine hid ?_;obtain⟨w9,hw9⟩:∃ W,w8.alloc (.cells #[.int .i64 cc.kind,.int .i64 cc.x,.int .i64 cc.y,.int .i64 cc.n,.int .i64 cc.m,.string (nmV cc),.slice A5 cc.cells.length c5,.int .i64 cc.p,.int .i64 cc.dx,.int .i64 cc.dy] 34)=W:=⟨_,rfl⟩
       obtain⟨p9,hp9⟩:∃ p,w8.heap.size=p:=⟨_,rfl⟩
       have hk9:Blk w9 p9 34 #[.int .i64 cc.kind,.int .i64 cc.x,.int .i64 cc.y,.int .i64 cc.n,.int .i64 cc.m,.string (nmV cc),.slice A5 cc.cells.length c5,.int .i64 cc.p,.int .i64 cc.dx,.int .i64 cc.dy]:=by rw[← hw9,← hp9];exact Blk.new _ _ _
       have hb9:Below w7.heap.size w7 w9:=by rw[← hw9];exact hb8.alloc hb8.size _
       have HB9:=hid (HB7q.out.trans (hb9.mono HB7q.out.size));have HBW9:=hid (HBW7.out.trans (hb9.mono HBW7.out.size));have HBX9:=hid (HBX7.out.trans (hb9.mono HBX7.out.size));have HO9:=hid (HO3.out.ext HB9.out);have HC5:Hid (Cls w9 A5 cc.cells):=hid (hc5.ext (by rw[← hw9];exact below_new _ _));have HN5:Hid (∀ ad,A5=some ad→u7.ownBlock≠some ad.block):=hid (fun ad e e2=>by
        have h1:=hn5 ad e;have h2:=HO3.out.blk_lt e2;have h3:=HB7q.out.size;omega)
       have HK9:=hid hk9;clear hc5 hn5 hb8 hb9 hk9 HCM x0 x1 x2;by_cases her:er=0
       ·subst her;have de:((0:Int) != 0)=false:=rfl;have HN:Hid (runS (k+1) (acc ++ [cc]) ((wdL ls).drop (k+1))=r):=hid (by rw[← HT.out,HAT3.out,if_neg (by simp)]);have hown:=HO9.out;have hcl:=HC5.out;have hna:=HN5.out;have hal:acc.length < 4294967296:=by have:=HAC.out;have:=HL2.out;omega
        have hbs:w2.heap.size≤w9.heap.size:=HBX9.out.size;have HL9:Hid ((acc ++ [cc]).length≤k+1):=hid (by rw[List.length_append];have:=HAC.out;show acc.length+1≤k+1;omega);have z0:w9.cell? ⟨p9,0,none⟩=some (.int .i64 cc.kind):=HK9.out.cell_ 0 _ rfl;have z1:w9.cell? ⟨p9,1,none⟩=some (.int .i64 cc.x):=HK9.out.cell_ 1 _ rfl;have z2:w9.cell? ⟨p9,2,none⟩=some (.int .i64 cc.y):=HK9.out.cell_ 2 _ rfl;have z3:w9.cell? ⟨p9,3,none⟩=some (.int .i64 cc.n):=HK9.out.cell_ 3 _ rfl;have z4:w9.cell? ⟨p9,4,none⟩=some (.int .i64 cc.m):=HK9.out.cell_ 4 _ rfl;have z5:w9.cell? ⟨p9,5,none⟩=some (.string (nmV cc)):=HK9.out.cell_ 5 _ rfl;have z6:w9.cell? ⟨p9,6,none⟩=some (.slice A5 cc.cells.length c5):=HK9.out.cell_ 6 _ rfl;have z7:w9.cell? ⟨p9,7,none⟩=some (.int .i64 cc.p):=HK9.out.cell_ 7 _ rfl;have z8:w9.cell? ⟨p9,8,none⟩=some (.int .i64 cc.dx):=HK9.out.cell_ 8 _ rfl;have z9:w9.cell? ⟨p9,9,none⟩=some (.int .i64 cc.dy):=HK9.out.cell_ 9 _ rfl;clear HAT3 HAC HO9 HC5 HN5;go_upto_region 20 with fail
        (try rw[hw9]);(try rw[hp9]);clear hw9 hp9;go_wp2_with (at_builtin;refine wpList_pushK rfl _ _ _ rfl w2.heap.size Tryz.underlying23 u7 acc rfl hown cc A5 c5 hcl hna rfl hal hbs ?_);intro v' w10 ho10 hb10;have HO10:=hid ho10;have HB10:=hid (HBX9.out.trans hb10);clear ho10 hb10 hown hcl hna hal hbs;go_wp2;go_roundw
        case rel=>exact⟨k+1,acc ++ [cc],HLT.out,(by first | rfl | (rw[hwk];rfl)),HB10,HO10,HL9,HN⟩
        case measure=>(try rw[hwk]);exact meas_step5b HLT.out
       ·have de:(er == 0)=false:=by simpa using her
        have de2:(er != 0)=true:=by simpa using her
        have HN:Hid (r=([],(k:Int)+1,er)):=hid (by rw[← HT.out,HAT3.out,if_pos her]);clear her HAT3;go_wp2;(try rw[Exit.noGoto_ret]);go_ret3;exact RetSc.bad (by rw[hwk];exact HN.out) HBW9.out
     ·have hek:j=fs.length:=by omega
      have hfs2:fo=none:=by rw[← HFT.out,List.drop_eq_nil_of_le (by omega)];rfl
      have HN:Hid (r=([],(k:Int)+1,15)):=hid (by rw[← HT.out,HAT2.out,hfs2];rfl);have dj:decide ((j:Int) < fs.length)=false:=decide_eq_false (by omega);have hnlt:¬ j < fs.length:=hjt;clear hek hfs2 HFT HAT2;go_wp2;(try rw[Exit.noGoto_ret]);go_ret3;exact RetSc.bad (by rw[hwk];exact HN.out) HBW.out
  ·have hek:k=ls.length:=by omega
   have HRE:Hid (r=(acc,0,0)):=hid (by
    rw[← HT.out,List.drop_eq_nil_of_le (by rw[wdL_len];omega)];rfl)
   have dk:decide ((k:Int) < ls.length)=false:=decide_eq_false (by omega);have hnlt:¬ k < ls.length:=hlt;have HC:=hid HO.out.cms;clear hek hlt HT HO;go_wp2;(try rw[Exit.noGoto_ret]);go_ret3;exact RetSc.good HRE.out HC.out HBW.out
end Go.Proofs.YtcfelnhmifkelaaGreatDoor
